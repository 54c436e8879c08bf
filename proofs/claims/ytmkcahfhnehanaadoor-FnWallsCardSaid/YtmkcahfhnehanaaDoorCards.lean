/-
  DERIVED. GIVEN WITH THE SEED: THE CARDS: each row of YtmkcahfhnehanaaDoorRows.lean that lists a variable, with what it lists TIED to the program's text (the seventh form; the later family's looks); each row that meets fmt, with fmt's text TOLD by the authors' own Lean function (tested against real Go, not proved from fmt's source: count such statements apart). THE CARD IS WHAT COUNTS. Prove the row's statement (the work); the ties are given (YtmkcahfhnehanaaDoorTie.lean); close each card by the builder's one call (the guide's Derived/Test/ToyasCard.lean, 'card_holds'). Laid BY PROGRAM, IN A SANDBOX (cutbox-door.mjs). By AI agents, Wed Nov 11 2026. No macro, syntax, notation, axiom, sorry.
-/
import Derived.Test.YtmkcahfhnehanaaDoorRows
import GoSem.ClaimSeven
namespace Go.Proofs.YtmkcahfhnehanaaDoor
namespace Rows

/-- THE TIED CARD OF 'laws.FnSpans'. -/
def fnSpansCard : Claim7 := { stood := { row := fnSpansRow, standIns := [], harness := (true, "83f27280b4b7ba5dc6fea98d3462822c005ac410bf7388c9afa8f8d07de7fe7d"), looks := true }, kinds := [], alts := [], laidByText := true, laidKinds := [.data, .data, .data, .data, .sentinel, .sentinel, .pinned], laidTests := true, laidLooks := .later }
def FnSpansCardSaid : Prop := Claim7.holds Tryd.pinned (.plain (OpenSpec.ofChange fnSpansSpec)) fnSpansCard

/-- THE TIED CARD OF 'laws.FnWalls'. -/
def fnWallsCard : Claim7 := { stood := { row := fnWallsRow, standIns := [], harness := (true, "83f27280b4b7ba5dc6fea98d3462822c005ac410bf7388c9afa8f8d07de7fe7d"), looks := true }, kinds := [], alts := [], laidByText := true, laidKinds := [.data, .data, .data, .data, .pinned], laidTests := true, laidLooks := .later }
def FnWallsCardSaid : Prop := Claim7.holds Tryd.pinned (.plain (OpenSpec.ofChange fnWallsSpec)) fnWallsCard

/-- THE SECOND FORM's CARD OF 'laws.FnSpans'. -/
def fnSpansUptoCard : Claim7 := { stood := { row := fnSpansUptoRow, standIns := [], harness := (true, "83f27280b4b7ba5dc6fea98d3462822c005ac410bf7388c9afa8f8d07de7fe7d"), looks := true }, kinds := [], alts := [], laidByText := true, laidKinds := [.data, .data, .data, .data, .sentinel, .sentinel, .pinned], laidTests := true, laidLooks := .later }
def FnSpansUptoCardSaid : Prop := Claim7.holds Tryd.pinned (.plain (OpenSpec.upto fnSpansSpec)) fnSpansUptoCard

/-- THE SECOND FORM's CARD OF 'laws.FnWalls'. -/
def fnWallsUptoCard : Claim7 := { stood := { row := fnWallsUptoRow, standIns := [], harness := (true, "83f27280b4b7ba5dc6fea98d3462822c005ac410bf7388c9afa8f8d07de7fe7d"), looks := true }, kinds := [], alts := [], laidByText := true, laidKinds := [.data, .data, .data, .data, .pinned], laidTests := true, laidLooks := .later }
def FnWallsUptoCardSaid : Prop := Claim7.holds Tryd.pinned (.plain (OpenSpec.upto fnWallsSpec)) fnWallsUptoCard
end Rows
end Go.Proofs.YtmkcahfhnehanaaDoor
