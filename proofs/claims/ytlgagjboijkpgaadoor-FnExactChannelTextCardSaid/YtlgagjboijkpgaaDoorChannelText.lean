/- For every input FnExactChannelText returns true, and its arguments read as they did, where the listed tables hold what the program's text lays. No other conditions. -/
import Derived.Test.YtlgagjboijkpgaaDoorRows
import Derived.Test.YtlgagjboijkpgaaDoorCards
import Derived.Test.YtlgagjboijkpgaaDoorTie
import Derived.Test.YtlgagjboijkpgaaDoorW4
import Derived.Test.YtlgagjboijkpgaaDoorHead
import Derived.Test.YtlgagjboijkpgaaDoorL0
import Derived.ProofKit
import Derived.OpenShut
import Derived.SevenTiedAt
namespace Go.Proofs.YtlgagjboijkpgaaDoor.fnExactChannelText
open Go.ChangeShapes Go.WideShapes Go.ChangeAt Go.RowKit Go.Eng

theorem c2 : Tryd.prog.cellsOf 2 = 1 := by kernel_rfl
theorem c27 : Tryd.prog.cellsOf 27 = 1 := by kernel_rfl
theorem c59 : Tryd.prog.cellsOf 59 = 2 := by kernel_rfl

set_option maxRecDepth 100000 in
theorem lifted (os : Os) (started : os.Started) (H : Type) (enc : TypeId × Value → H) :
    ReturnsInHanded {} Tryd.checked os 11 .any (fun w args => (Rows.fnExactChannelTextSpec.pre enc Tryd.prog Tryd.f11 Rows.fnExactChannelTextRow.domain false w args ∧ laidMetH Tryd.prog Rows.fnExactChannelTextRow.laid w) ∧ sizedMet enc Tryd.prog Tryd.f11 (OpenSpec.ofChange Rows.fnExactChannelTextSpec) false w args) (Rows.fnExactChannelTextSpec.post enc Tryd.prog Tryd.f11 false true false false) := by
  refine returnsInHanded_of_change_and (C := Tryd.checked) (X := fun w _ => laidMetH Tryd.prog Rows.fnExactChannelTextRow.laid w) (fun _ _ _ hh h => h.of_heap hh) own started (by kernel_rfl) Tryd.func11
    (ChangeSpec.witness_at (enc := enc) (C := Tryd.checked) (os := os) (X := fun w _ => laidMetH Tryd.prog Rows.fnExactChannelTextRow.laid w) false (laidWorld os) #[.agg #[.slice none 0 0, .slice none 0 0]] 8 rfl (by kernel_rfl) (by kernel_rfl) (by kernel_rfl) (by kernel_rfl) (by kernel_rfl) (laidWorld_met os _)) ?_
  intro W base args ds gs before hval hW _ _ hL0 _
  obtain ⟨T, fr, hc⟩ := pow_of_laid hL0
  refine law_contractT (P := Tryd.prog) (f := 11) (fn := Tryd.f11) (tb := 4) rfl rfl Tryd.underlying4 (fun H ds h => ?_) laid (by decide +kernel)
    (As := [fun a => ∃ (xs : List (ETy.int .i64).T) (ys : List (ETy.int .i64).T), xs.length ≤ maxLen ∧ ys.length ≤ maxLen ∧ (∀ y ∈ xs, (ETy.int .i64).wf y) ∧ (∀ y ∈ ys, (ETy.int .i64).wf y) ∧ a = .agg [.rd (.int .i64) xs, .rd (.int .i64) ys]]) ?_ (ts := [(0, .cells powCells T fr)]) (fun l h => ?_) (by simp) (by simpa using hc) hval hW
  · rw [Tryd.params11] at h
    match ds, h with
    | [_], _ => rfl
  · rw [Tryd.params11]
    exact ⟨opn_two Tryd.underlying59 Tryd.underlying27 Tryd.underlying27 (.int c2 Tryd.underlying2) (.int c2 Tryd.underlying2) c27 c27 rfl rfl c59, trivial⟩
  · obtain ⟨a, l, rfl, ⟨x0, y0, p0, q0, r0, s0, rfl⟩, h1⟩ := h.cons
    obtain rfl := h1.nil
    exact (fun x y p q _ _ T fr => law11_ac (x, y) p q T fr) x0 y0 p0 q0 r0 s0 T fr

theorem closed : joinedFacts Tryd.prog 11 Tryd.f11 Rows.fnExactChannelTextSpec Rows.fnExactChannelTextRow = true := by
  unfold joinedFacts
  rw [mayEnter_eq, liftsFinal_eq, make_eq]
  kernel_rfl

theorem over : Rows.fnExactChannelTextRow.holds Tryd.pinned (OpenSpec.ofChange Rows.fnExactChannelTextSpec) :=
  OpenClaim.holds_of_wide 11 Tryd.f11 rfl rfl rfl rfl rfl rfl rfl ⟨rfl, rfl, rfl, rfl, rfl⟩ rfl rfl rfl rfl rfl (by kernel_rfl) Tryd.func11 closed
    (of_decide_eq_true (by kernel_rfl)) (by unfold Func.isWrapper; first | (rw [if_pos (by decide +kernel)]; kernel_rfl) | (rw [if_neg (by decide +kernel)]; exact ⟨rfl, rfl⟩))
    (fun os started H enc _ => lifted os started H enc)

/-- The statement: the row, its listed tables tied to the program's text. -/
theorem proved : Rows.FnExactChannelTextCardSaid :=
  Claim7.holds_tied_plain_at .later [] [.data, .data, .data] true (true, "092c4f92eaef33a8fea5d561f15b0bad225bffa8b823a978b87a32c7ef4b1b67") true
    over (fun _ h => by cases h) (by kernel_rfl) (fun _ h => by cases h) fnExactChannelText_row_tie rfl ⟨rfl, rfl⟩ (by kernel_rfl) rfl
    (fun g fn hg hfn => by
      obtain rfl : g = 11 := Option.some.inj ((show Tryd.prog.funcNamed "loop.example/g01149/laws.FnExactChannelText" = some 11 by kernel_rfl).symm.trans hg) |>.symm
      obtain rfl : fn = Tryd.f11 := (Option.some.inj (Tryd.func11.symm.trans hfn)).symm
      exact ⟨by kernel_rfl, fun j t ht => by
        have hall : ∀ t ∈ Tryd.f11.params.toList, Tryd.prog.wantsStandIn t = false := by decide +kernel
        exact hall t (by
          have h1 : Tryd.f11.params[j]? = some t := ht
          exact Array.mem_toList_iff.2 (Array.mem_of_getElem? h1))⟩)
    (by kernel_rfl)
#print axioms proved
end Go.Proofs.YtlgagjboijkpgaaDoor.fnExactChannelText
