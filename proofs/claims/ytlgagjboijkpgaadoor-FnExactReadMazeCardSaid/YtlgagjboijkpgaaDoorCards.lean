/-
  DERIVED. GIVEN WITH THE SEED: THE CARDS: each row of YtlgagjboijkpgaaDoorRows.lean that lists a variable, with what it lists TIED to the program's text (the seventh form; the later family's looks); each row that meets fmt, with fmt's text TOLD by the authors' own Lean function (tested against real Go, not proved from fmt's source: count such statements apart). THE CARD IS WHAT COUNTS. Prove the row's statement (the work); the ties are given (YtlgagjboijkpgaaDoorTie.lean); close each card by the builder's one call (the guide's Derived/Test/ToyasCard.lean, 'card_holds'). Laid BY PROGRAM, IN A SANDBOX (cutbox-door.mjs). By AI agents, Wed Nov 11 2026. No macro, syntax, notation, axiom, sorry.
-/
import Derived.Test.YtlgagjboijkpgaaDoorRows
import GoSem.ClaimSeven
namespace Go.Proofs.YtlgagjboijkpgaaDoor
namespace Rows

/-- THE TIED CARD OF 'laws.FnExactDecimal'. -/
def fnExactDecimalCard : Claim7 := { stood := { row := fnExactDecimalRow, standIns := [], harness := (true, "092c4f92eaef33a8fea5d561f15b0bad225bffa8b823a978b87a32c7ef4b1b67"), looks := true }, kinds := [], alts := [], laidByText := true, laidKinds := [.data, .data, .data], laidTests := true, laidLooks := .later }
def FnExactDecimalCardSaid : Prop := Claim7.holds Tryd.pinned (.plain (OpenSpec.ofChange fnExactDecimalSpec)) fnExactDecimalCard

/-- THE TIED CARD OF 'laws.FnExactReadDecimal'. -/
def fnExactReadDecimalCard : Claim7 := { stood := { row := fnExactReadDecimalRow, standIns := [], harness := (true, "092c4f92eaef33a8fea5d561f15b0bad225bffa8b823a978b87a32c7ef4b1b67"), looks := true }, kinds := [], alts := [], laidByText := true, laidKinds := [.data, .data, .data, .sentinel, .sentinel], laidTests := true, laidLooks := .later }
def FnExactReadDecimalCardSaid : Prop := Claim7.holds Tryd.pinned (.plain (OpenSpec.ofChange fnExactReadDecimalSpec)) fnExactReadDecimalCard

/-- THE TIED CARD OF 'laws.FnExactListText'. -/
def fnExactListTextCard : Claim7 := { stood := { row := fnExactListTextRow, standIns := [], harness := (true, "092c4f92eaef33a8fea5d561f15b0bad225bffa8b823a978b87a32c7ef4b1b67"), looks := true }, kinds := [], alts := [], laidByText := true, laidKinds := [.data, .data, .data], laidTests := true, laidLooks := .later }
def FnExactListTextCardSaid : Prop := Claim7.holds Tryd.pinned (.plain (OpenSpec.ofChange fnExactListTextSpec)) fnExactListTextCard

/-- THE TIED CARD OF 'laws.FnExactPointsText'. -/
def fnExactPointsTextCard : Claim7 := { stood := { row := fnExactPointsTextRow, standIns := [], harness := (true, "092c4f92eaef33a8fea5d561f15b0bad225bffa8b823a978b87a32c7ef4b1b67"), looks := true }, kinds := [], alts := [], laidByText := true, laidKinds := [.data, .data, .data], laidTests := true, laidLooks := .later }
def FnExactPointsTextCardSaid : Prop := Claim7.holds Tryd.pinned (.plain (OpenSpec.ofChange fnExactPointsTextSpec)) fnExactPointsTextCard

/-- THE TIED CARD OF 'laws.FnExactReadList'. -/
def fnExactReadListCard : Claim7 := { stood := { row := fnExactReadListRow, standIns := [], harness := (true, "092c4f92eaef33a8fea5d561f15b0bad225bffa8b823a978b87a32c7ef4b1b67"), looks := true }, kinds := [], alts := [], laidByText := true, laidKinds := [.data, .data, .data, .data, .sentinel, .sentinel, .pinned], laidTests := true, laidLooks := .later }
def FnExactReadListCardSaid : Prop := Claim7.holds Tryd.pinned (.plain (OpenSpec.ofChange fnExactReadListSpec)) fnExactReadListCard

/-- THE TIED CARD OF 'laws.FnExactReadPoints'. -/
def fnExactReadPointsCard : Claim7 := { stood := { row := fnExactReadPointsRow, standIns := [], harness := (true, "092c4f92eaef33a8fea5d561f15b0bad225bffa8b823a978b87a32c7ef4b1b67"), looks := true }, kinds := [], alts := [], laidByText := true, laidKinds := [.data, .data, .data, .data, .sentinel, .sentinel, .pinned], laidTests := true, laidLooks := .later }
def FnExactReadPointsCardSaid : Prop := Claim7.holds Tryd.pinned (.plain (OpenSpec.ofChange fnExactReadPointsSpec)) fnExactReadPointsCard

/-- THE TIED CARD OF 'laws.FnExactMazeText'. -/
def fnExactMazeTextCard : Claim7 := { stood := { row := fnExactMazeTextRow, standIns := [], harness := (true, "092c4f92eaef33a8fea5d561f15b0bad225bffa8b823a978b87a32c7ef4b1b67"), looks := true }, kinds := [], alts := [], laidByText := true, laidKinds := [.data, .data, .data], laidTests := true, laidLooks := .later }
def FnExactMazeTextCardSaid : Prop := Claim7.holds Tryd.pinned (.plain (OpenSpec.ofChange fnExactMazeTextSpec)) fnExactMazeTextCard

/-- THE TIED CARD OF 'laws.FnExactReadMaze'. -/
def fnExactReadMazeCard : Claim7 := { stood := { row := fnExactReadMazeRow, standIns := [], harness := (true, "092c4f92eaef33a8fea5d561f15b0bad225bffa8b823a978b87a32c7ef4b1b67"), looks := true }, kinds := [], alts := [], laidByText := true, laidKinds := [.data, .pinned], laidTests := true, laidLooks := .later }
def FnExactReadMazeCardSaid : Prop := Claim7.holds Tryd.pinned (.plain (OpenSpec.ofChange fnExactReadMazeSpec)) fnExactReadMazeCard

/-- THE TIED CARD OF 'laws.FnExactChannelText'. -/
def fnExactChannelTextCard : Claim7 := { stood := { row := fnExactChannelTextRow, standIns := [], harness := (true, "092c4f92eaef33a8fea5d561f15b0bad225bffa8b823a978b87a32c7ef4b1b67"), looks := true }, kinds := [], alts := [], laidByText := true, laidKinds := [.data, .data, .data], laidTests := true, laidLooks := .later }
def FnExactChannelTextCardSaid : Prop := Claim7.holds Tryd.pinned (.plain (OpenSpec.ofChange fnExactChannelTextSpec)) fnExactChannelTextCard

/-- THE TIED CARD OF 'laws.FnExactReadChannel'. -/
def fnExactReadChannelCard : Claim7 := { stood := { row := fnExactReadChannelRow, standIns := [], harness := (true, "092c4f92eaef33a8fea5d561f15b0bad225bffa8b823a978b87a32c7ef4b1b67"), looks := true }, kinds := [], alts := [], laidByText := true, laidKinds := [.data, .data, .data, .data, .sentinel, .sentinel, .pinned], laidTests := true, laidLooks := .later }
def FnExactReadChannelCardSaid : Prop := Claim7.holds Tryd.pinned (.plain (OpenSpec.ofChange fnExactReadChannelSpec)) fnExactReadChannelCard

/-- THE SECOND FORM's CARD OF 'laws.FnExactDecimal'. -/
def fnExactDecimalUptoCard : Claim7 := { stood := { row := fnExactDecimalUptoRow, standIns := [], harness := (true, "092c4f92eaef33a8fea5d561f15b0bad225bffa8b823a978b87a32c7ef4b1b67"), looks := true }, kinds := [], alts := [], laidByText := true, laidKinds := [.data, .data, .data], laidTests := true, laidLooks := .later }
def FnExactDecimalUptoCardSaid : Prop := Claim7.holds Tryd.pinned (.plain (OpenSpec.upto fnExactDecimalSpec)) fnExactDecimalUptoCard

/-- THE SECOND FORM's CARD OF 'laws.FnExactReadDecimal'. -/
def fnExactReadDecimalUptoCard : Claim7 := { stood := { row := fnExactReadDecimalUptoRow, standIns := [], harness := (true, "092c4f92eaef33a8fea5d561f15b0bad225bffa8b823a978b87a32c7ef4b1b67"), looks := true }, kinds := [], alts := [], laidByText := true, laidKinds := [.data, .data, .data, .sentinel, .sentinel], laidTests := true, laidLooks := .later }
def FnExactReadDecimalUptoCardSaid : Prop := Claim7.holds Tryd.pinned (.plain (OpenSpec.upto fnExactReadDecimalSpec)) fnExactReadDecimalUptoCard

/-- THE SECOND FORM's CARD OF 'laws.FnExactListText'. -/
def fnExactListTextUptoCard : Claim7 := { stood := { row := fnExactListTextUptoRow, standIns := [], harness := (true, "092c4f92eaef33a8fea5d561f15b0bad225bffa8b823a978b87a32c7ef4b1b67"), looks := true }, kinds := [], alts := [], laidByText := true, laidKinds := [.data, .data, .data], laidTests := true, laidLooks := .later }
def FnExactListTextUptoCardSaid : Prop := Claim7.holds Tryd.pinned (.plain (OpenSpec.upto fnExactListTextSpec)) fnExactListTextUptoCard

/-- THE SECOND FORM's CARD OF 'laws.FnExactPointsText'. -/
def fnExactPointsTextUptoCard : Claim7 := { stood := { row := fnExactPointsTextUptoRow, standIns := [], harness := (true, "092c4f92eaef33a8fea5d561f15b0bad225bffa8b823a978b87a32c7ef4b1b67"), looks := true }, kinds := [], alts := [], laidByText := true, laidKinds := [.data, .data, .data], laidTests := true, laidLooks := .later }
def FnExactPointsTextUptoCardSaid : Prop := Claim7.holds Tryd.pinned (.plain (OpenSpec.upto fnExactPointsTextSpec)) fnExactPointsTextUptoCard

/-- THE SECOND FORM's CARD OF 'laws.FnExactReadList'. -/
def fnExactReadListUptoCard : Claim7 := { stood := { row := fnExactReadListUptoRow, standIns := [], harness := (true, "092c4f92eaef33a8fea5d561f15b0bad225bffa8b823a978b87a32c7ef4b1b67"), looks := true }, kinds := [], alts := [], laidByText := true, laidKinds := [.data, .data, .data, .data, .sentinel, .sentinel, .pinned], laidTests := true, laidLooks := .later }
def FnExactReadListUptoCardSaid : Prop := Claim7.holds Tryd.pinned (.plain (OpenSpec.upto fnExactReadListSpec)) fnExactReadListUptoCard

/-- THE SECOND FORM's CARD OF 'laws.FnExactReadPoints'. -/
def fnExactReadPointsUptoCard : Claim7 := { stood := { row := fnExactReadPointsUptoRow, standIns := [], harness := (true, "092c4f92eaef33a8fea5d561f15b0bad225bffa8b823a978b87a32c7ef4b1b67"), looks := true }, kinds := [], alts := [], laidByText := true, laidKinds := [.data, .data, .data, .data, .sentinel, .sentinel, .pinned], laidTests := true, laidLooks := .later }
def FnExactReadPointsUptoCardSaid : Prop := Claim7.holds Tryd.pinned (.plain (OpenSpec.upto fnExactReadPointsSpec)) fnExactReadPointsUptoCard

/-- THE SECOND FORM's CARD OF 'laws.FnExactMazeText'. -/
def fnExactMazeTextUptoCard : Claim7 := { stood := { row := fnExactMazeTextUptoRow, standIns := [], harness := (true, "092c4f92eaef33a8fea5d561f15b0bad225bffa8b823a978b87a32c7ef4b1b67"), looks := true }, kinds := [], alts := [], laidByText := true, laidKinds := [.data, .data, .data], laidTests := true, laidLooks := .later }
def FnExactMazeTextUptoCardSaid : Prop := Claim7.holds Tryd.pinned (.plain (OpenSpec.upto fnExactMazeTextSpec)) fnExactMazeTextUptoCard

/-- THE SECOND FORM's CARD OF 'laws.FnExactReadMaze'. -/
def fnExactReadMazeUptoCard : Claim7 := { stood := { row := fnExactReadMazeUptoRow, standIns := [], harness := (true, "092c4f92eaef33a8fea5d561f15b0bad225bffa8b823a978b87a32c7ef4b1b67"), looks := true }, kinds := [], alts := [], laidByText := true, laidKinds := [.data, .pinned], laidTests := true, laidLooks := .later }
def FnExactReadMazeUptoCardSaid : Prop := Claim7.holds Tryd.pinned (.plain (OpenSpec.upto fnExactReadMazeSpec)) fnExactReadMazeUptoCard

/-- THE SECOND FORM's CARD OF 'laws.FnExactChannelText'. -/
def fnExactChannelTextUptoCard : Claim7 := { stood := { row := fnExactChannelTextUptoRow, standIns := [], harness := (true, "092c4f92eaef33a8fea5d561f15b0bad225bffa8b823a978b87a32c7ef4b1b67"), looks := true }, kinds := [], alts := [], laidByText := true, laidKinds := [.data, .data, .data], laidTests := true, laidLooks := .later }
def FnExactChannelTextUptoCardSaid : Prop := Claim7.holds Tryd.pinned (.plain (OpenSpec.upto fnExactChannelTextSpec)) fnExactChannelTextUptoCard

/-- THE SECOND FORM's CARD OF 'laws.FnExactReadChannel'. -/
def fnExactReadChannelUptoCard : Claim7 := { stood := { row := fnExactReadChannelUptoRow, standIns := [], harness := (true, "092c4f92eaef33a8fea5d561f15b0bad225bffa8b823a978b87a32c7ef4b1b67"), looks := true }, kinds := [], alts := [], laidByText := true, laidKinds := [.data, .data, .data, .data, .sentinel, .sentinel, .pinned], laidTests := true, laidLooks := .later }
def FnExactReadChannelUptoCardSaid : Prop := Claim7.holds Tryd.pinned (.plain (OpenSpec.upto fnExactReadChannelSpec)) fnExactReadChannelUptoCard
end Rows
end Go.Proofs.YtlgagjboijkpgaaDoor
