/-
  No cell of these rows narrows 'for every input' (looked for: loops, veiled, ifaces, maps, wideKeys, modest, calm, conditions, laid).
  DERIVED. THE GIVEN ROWS OF THIS SEAT. 20 by the template 'for every input the law returns true; each argument reads behind the call as it read before'; 0 by the template 'total and deterministic' (their statements: YtlkamicaoljefaaTotals.lean).
  GIVEN WITH THE SEED: the statements are not yours to turn. If you find one false, say at which input.
  Laid BY PROGRAM, IN A SANDBOX (cutbox-rows.mjs): the forced cells as the released guide's own fill.sh prints them over the translation d9488ac2ab0d1cb6… (all of the seat's roots in one cut). By AI agents, Wed Nov 11 2026. No macro, syntax, notation, axiom, sorry.
-/
import Derived.Test.YtlkamicaoljefaaChecked
import GoSem.Claim
import GoSem.ClaimJoined
import GoSem.ClaimMapViews
import Derived.JoinedTies
import Derived.KernelRfl
namespace Go.Proofs.Ytlkamicaoljefaa
/- THE CELL 'sum', in the pinned program and in every row, IS THE sha256 OF THE DUMP (.gsa) THAT YtlkamicaoljefaaProg.lean LOADS. Nothing in Lean hashes anything: it is a label: what it is worth is what the hold of that sum in a sandbox is worth. -/
noncomputable def Try.pinned : Pinned := { name := "ytlkamicaoljefaa", sum := "d9488ac2ab0d1cb68d1a9e5161db5e090a84834a61eaa2d19a72af62bac6dc58", checked := Try.checked }
namespace Rows
def none {H : Type} : Left H := { results := [], args := [] }

/-- 'laws.FnExactConstants': WHATEVER THE INPUT: true; the input reads as it did. -/
def fnExactConstantsSpec : ChangeSpec := { name := "fnExactConstants", fn := fun _ => fun
  | [] => { results := [.lit (.bool true)], args := [] }
  | _ => none }
def fnExactConstantsRow : OpenClaim := { program := "ytlkamicaoljefaa", sum := "d9488ac2ab0d1cb68d1a9e5161db5e090a84834a61eaa2d19a72af62bac6dc58", func := "loop.example/g01149/laws.FnExactConstants", spec := "fnExactConstants", apart := false }
def FnExactConstantsSaid : Prop := fnExactConstantsRow.holds Try.pinned (OpenSpec.ofChange fnExactConstantsSpec)

/-- ITS FALSE NEIGHBOUR: 'it returns false'. Refute it at one input. -/
def fnExactConstantsWrong : ChangeSpec := { name := "fnExactConstants", fn := fun _ => fun
  | [] => { results := [.lit (.bool false)], args := [] }
  | _ => none }
def FnExactConstantsWrongFalsely : Prop := fnExactConstantsRow.holds Try.pinned (OpenSpec.ofChange fnExactConstantsWrong)

/-- 'laws.FnExactIsPoint': WHATEVER THE INPUT: true; the input reads as it did. -/
def fnExactIsPointSpec : ChangeSpec := { name := "fnExactIsPoint", fn := fun _ => fun
  | [d] => { results := [.lit (.bool true)], args := [d] }
  | _ => none }
def fnExactIsPointRow : OpenClaim := { program := "ytlkamicaoljefaa", sum := "d9488ac2ab0d1cb68d1a9e5161db5e090a84834a61eaa2d19a72af62bac6dc58", func := "loop.example/g01149/laws.FnExactIsPoint", spec := "fnExactIsPoint", apart := false }
def FnExactIsPointSaid : Prop := fnExactIsPointRow.holds Try.pinned (OpenSpec.ofChange fnExactIsPointSpec)

/-- ITS FALSE NEIGHBOUR: 'it returns false'. Refute it at one input. -/
def fnExactIsPointWrong : ChangeSpec := { name := "fnExactIsPoint", fn := fun _ => fun
  | [d] => { results := [.lit (.bool false)], args := [d] }
  | _ => none }
def FnExactIsPointWrongFalsely : Prop := fnExactIsPointRow.holds Try.pinned (OpenSpec.ofChange fnExactIsPointWrong)

/-- 'laws.FnExactIsName': WHATEVER THE INPUT: true; the input reads as it did. -/
def fnExactIsNameSpec : ChangeSpec := { name := "fnExactIsName", fn := fun _ => fun
  | [d] => { results := [.lit (.bool true)], args := [d] }
  | _ => none }
def fnExactIsNameRow : OpenClaim := { program := "ytlkamicaoljefaa", sum := "d9488ac2ab0d1cb68d1a9e5161db5e090a84834a61eaa2d19a72af62bac6dc58", func := "loop.example/g01149/laws.FnExactIsName", spec := "fnExactIsName", apart := false }
def FnExactIsNameSaid : Prop := fnExactIsNameRow.holds Try.pinned (OpenSpec.ofChange fnExactIsNameSpec)

/-- ITS FALSE NEIGHBOUR: 'it returns false'. Refute it at one input. -/
def fnExactIsNameWrong : ChangeSpec := { name := "fnExactIsName", fn := fun _ => fun
  | [d] => { results := [.lit (.bool false)], args := [d] }
  | _ => none }
def FnExactIsNameWrongFalsely : Prop := fnExactIsNameRow.holds Try.pinned (OpenSpec.ofChange fnExactIsNameWrong)

/-- 'laws.FnExactCheckOf': WHATEVER THE INPUT: true; the input reads as it did. -/
def fnExactCheckOfSpec : ChangeSpec := { name := "fnExactCheckOf", fn := fun _ => fun
  | [d1, d2] => { results := [.lit (.bool true)], args := [d1, d2] }
  | _ => none }
def fnExactCheckOfRow : OpenClaim := { program := "ytlkamicaoljefaa", sum := "d9488ac2ab0d1cb68d1a9e5161db5e090a84834a61eaa2d19a72af62bac6dc58", func := "loop.example/g01149/laws.FnExactCheckOf", spec := "fnExactCheckOf", apart := false }
def FnExactCheckOfSaid : Prop := fnExactCheckOfRow.holds Try.pinned (OpenSpec.ofChange fnExactCheckOfSpec)

/-- ITS FALSE NEIGHBOUR: 'it returns false'. Refute it at one input. -/
def fnExactCheckOfWrong : ChangeSpec := { name := "fnExactCheckOf", fn := fun _ => fun
  | [d1, d2] => { results := [.lit (.bool false)], args := [d1, d2] }
  | _ => none }
def FnExactCheckOfWrongFalsely : Prop := fnExactCheckOfRow.holds Try.pinned (OpenSpec.ofChange fnExactCheckOfWrong)

/-- 'laws.FnExactValidRiver': WHATEVER THE INPUT: true; the input reads as it did. -/
def fnExactValidRiverSpec : ChangeSpec := { name := "fnExactValidRiver", fn := fun _ => fun
  | [d1, d2] => { results := [.lit (.bool true)], args := [d1, d2] }
  | _ => none }
def fnExactValidRiverRow : OpenClaim := { program := "ytlkamicaoljefaa", sum := "d9488ac2ab0d1cb68d1a9e5161db5e090a84834a61eaa2d19a72af62bac6dc58", func := "loop.example/g01149/laws.FnExactValidRiver", spec := "fnExactValidRiver", apart := false }
def FnExactValidRiverSaid : Prop := fnExactValidRiverRow.holds Try.pinned (OpenSpec.ofChange fnExactValidRiverSpec)

/-- ITS FALSE NEIGHBOUR: 'it returns false'. Refute it at one input. -/
def fnExactValidRiverWrong : ChangeSpec := { name := "fnExactValidRiver", fn := fun _ => fun
  | [d1, d2] => { results := [.lit (.bool false)], args := [d1, d2] }
  | _ => none }
def FnExactValidRiverWrongFalsely : Prop := fnExactValidRiverRow.holds Try.pinned (OpenSpec.ofChange fnExactValidRiverWrong)

/-- 'laws.FnExactMedianPoint': WHATEVER THE INPUT: true; the input reads as it did. -/
def fnExactMedianPointSpec : ChangeSpec := { name := "fnExactMedianPoint", fn := fun _ => fun
  | [d1, d2, d3] => { results := [.lit (.bool true)], args := [d1, d2, d3] }
  | _ => none }
def fnExactMedianPointRow : OpenClaim := { program := "ytlkamicaoljefaa", sum := "d9488ac2ab0d1cb68d1a9e5161db5e090a84834a61eaa2d19a72af62bac6dc58", func := "loop.example/g01149/laws.FnExactMedianPoint", spec := "fnExactMedianPoint", apart := false }
def FnExactMedianPointSaid : Prop := fnExactMedianPointRow.holds Try.pinned (OpenSpec.ofChange fnExactMedianPointSpec)

/-- ITS FALSE NEIGHBOUR: 'it returns false'. Refute it at one input. -/
def fnExactMedianPointWrong : ChangeSpec := { name := "fnExactMedianPoint", fn := fun _ => fun
  | [d1, d2, d3] => { results := [.lit (.bool false)], args := [d1, d2, d3] }
  | _ => none }
def FnExactMedianPointWrongFalsely : Prop := fnExactMedianPointRow.holds Try.pinned (OpenSpec.ofChange fnExactMedianPointWrong)

/-- 'laws.FnExactArePoints': WHATEVER THE INPUT: true; the input reads as it did. -/
def fnExactArePointsSpec : ChangeSpec := { name := "fnExactArePoints", fn := fun _ => fun
  | [d] => { results := [.lit (.bool true)], args := [d] }
  | _ => none }
def fnExactArePointsRow : OpenClaim := { program := "ytlkamicaoljefaa", sum := "d9488ac2ab0d1cb68d1a9e5161db5e090a84834a61eaa2d19a72af62bac6dc58", func := "loop.example/g01149/laws.FnExactArePoints", spec := "fnExactArePoints", unfollowed := true, recurses := true, apart := false }
def FnExactArePointsSaid : Prop := fnExactArePointsRow.holds Try.pinned (OpenSpec.ofChange fnExactArePointsSpec)

/-- ITS FALSE NEIGHBOUR: 'it returns false'. Refute it at one input. -/
def fnExactArePointsWrong : ChangeSpec := { name := "fnExactArePoints", fn := fun _ => fun
  | [d] => { results := [.lit (.bool false)], args := [d] }
  | _ => none }
def FnExactArePointsWrongFalsely : Prop := fnExactArePointsRow.holds Try.pinned (OpenSpec.ofChange fnExactArePointsWrong)

/-- 'laws.FnExactFitsRiver': WHATEVER THE INPUT: true; the input reads as it did. -/
def fnExactFitsRiverSpec : ChangeSpec := { name := "fnExactFitsRiver", fn := fun _ => fun
  | [d1, d2, d3] => { results := [.lit (.bool true)], args := [d1, d2, d3] }
  | _ => none }
def fnExactFitsRiverRow : OpenClaim := { program := "ytlkamicaoljefaa", sum := "d9488ac2ab0d1cb68d1a9e5161db5e090a84834a61eaa2d19a72af62bac6dc58", func := "loop.example/g01149/laws.FnExactFitsRiver", spec := "fnExactFitsRiver", apart := false }
def FnExactFitsRiverSaid : Prop := fnExactFitsRiverRow.holds Try.pinned (OpenSpec.ofChange fnExactFitsRiverSpec)

/-- ITS FALSE NEIGHBOUR: 'it returns false'. Refute it at one input. -/
def fnExactFitsRiverWrong : ChangeSpec := { name := "fnExactFitsRiver", fn := fun _ => fun
  | [d1, d2, d3] => { results := [.lit (.bool false)], args := [d1, d2, d3] }
  | _ => none }
def FnExactFitsRiverWrongFalsely : Prop := fnExactFitsRiverRow.holds Try.pinned (OpenSpec.ofChange fnExactFitsRiverWrong)

/-- 'laws.FnTight': WHATEVER THE INPUT: true; the input reads as it did. -/
def fnTightSpec : ChangeSpec := { name := "fnTight", fn := fun _ => fun
  | [d1, d2] => { results := [.lit (.bool true)], args := [d1, d2] }
  | _ => none }
def fnTightRow : OpenClaim := { program := "ytlkamicaoljefaa", sum := "d9488ac2ab0d1cb68d1a9e5161db5e090a84834a61eaa2d19a72af62bac6dc58", func := "loop.example/g01149/laws.FnTight", spec := "fnTight", apart := false }
def FnTightSaid : Prop := fnTightRow.holds Try.pinned (OpenSpec.ofChange fnTightSpec)

/-- ITS FALSE NEIGHBOUR: 'it returns false'. Refute it at one input. -/
def fnTightWrong : ChangeSpec := { name := "fnTight", fn := fun _ => fun
  | [d1, d2] => { results := [.lit (.bool false)], args := [d1, d2] }
  | _ => none }
def FnTightWrongFalsely : Prop := fnTightRow.holds Try.pinned (OpenSpec.ofChange fnTightWrong)

/-- 'laws.FnExactTightPins': WHATEVER THE INPUT: true; the input reads as it did. -/
def fnExactTightPinsSpec : ChangeSpec := { name := "fnExactTightPins", fn := fun _ => fun
  | [d1, d2, d3] => { results := [.lit (.bool true)], args := [d1, d2, d3] }
  | _ => none }
def fnExactTightPinsRow : OpenClaim := { program := "ytlkamicaoljefaa", sum := "d9488ac2ab0d1cb68d1a9e5161db5e090a84834a61eaa2d19a72af62bac6dc58", func := "loop.example/g01149/laws.FnExactTightPins", spec := "fnExactTightPins", apart := false }
def FnExactTightPinsSaid : Prop := fnExactTightPinsRow.holds Try.pinned (OpenSpec.ofChange fnExactTightPinsSpec)

/-- ITS FALSE NEIGHBOUR: 'it returns false'. Refute it at one input. -/
def fnExactTightPinsWrong : ChangeSpec := { name := "fnExactTightPins", fn := fun _ => fun
  | [d1, d2, d3] => { results := [.lit (.bool false)], args := [d1, d2, d3] }
  | _ => none }
def FnExactTightPinsWrongFalsely : Prop := fnExactTightPinsRow.holds Try.pinned (OpenSpec.ofChange fnExactTightPinsWrong)

/-- 'laws.FnExactLeastTracks': WHATEVER THE INPUT: true; the input reads as it did. -/
def fnExactLeastTracksSpec : ChangeSpec := { name := "fnExactLeastTracks", fn := fun _ => fun
  | [d1, d2] => { results := [.lit (.bool true)], args := [d1, d2] }
  | _ => none }
def fnExactLeastTracksRow : OpenClaim := { program := "ytlkamicaoljefaa", sum := "d9488ac2ab0d1cb68d1a9e5161db5e090a84834a61eaa2d19a72af62bac6dc58", func := "loop.example/g01149/laws.FnExactLeastTracks", spec := "fnExactLeastTracks", apart := false }
def FnExactLeastTracksSaid : Prop := fnExactLeastTracksRow.holds Try.pinned (OpenSpec.ofChange fnExactLeastTracksSpec)

/-- ITS FALSE NEIGHBOUR: 'it returns false'. Refute it at one input. -/
def fnExactLeastTracksWrong : ChangeSpec := { name := "fnExactLeastTracks", fn := fun _ => fun
  | [d1, d2] => { results := [.lit (.bool false)], args := [d1, d2] }
  | _ => none }
def FnExactLeastTracksWrongFalsely : Prop := fnExactLeastTracksRow.holds Try.pinned (OpenSpec.ofChange fnExactLeastTracksWrong)

/-- 'laws.FnExactShiftRange': WHATEVER THE INPUT: true; the input reads as it did. -/
def fnExactShiftRangeSpec : ChangeSpec := { name := "fnExactShiftRange", fn := fun _ => fun
  | [d1, d2, d3] => { results := [.lit (.bool true)], args := [d1, d2, d3] }
  | _ => none }
def fnExactShiftRangeRow : OpenClaim := { program := "ytlkamicaoljefaa", sum := "d9488ac2ab0d1cb68d1a9e5161db5e090a84834a61eaa2d19a72af62bac6dc58", func := "loop.example/g01149/laws.FnExactShiftRange", spec := "fnExactShiftRange", apart := false }
def FnExactShiftRangeSaid : Prop := fnExactShiftRangeRow.holds Try.pinned (OpenSpec.ofChange fnExactShiftRangeSpec)

/-- ITS FALSE NEIGHBOUR: 'it returns false'. Refute it at one input. -/
def fnExactShiftRangeWrong : ChangeSpec := { name := "fnExactShiftRange", fn := fun _ => fun
  | [d1, d2, d3] => { results := [.lit (.bool false)], args := [d1, d2, d3] }
  | _ => none }
def FnExactShiftRangeWrongFalsely : Prop := fnExactShiftRangeRow.holds Try.pinned (OpenSpec.ofChange fnExactShiftRangeWrong)

/-- 'laws.FnExactBestShift': WHATEVER THE INPUT: true; the input reads as it did. -/
def fnExactBestShiftSpec : ChangeSpec := { name := "fnExactBestShift", fn := fun _ => fun
  | [d1, d2] => { results := [.lit (.bool true)], args := [d1, d2] }
  | _ => none }
def fnExactBestShiftRow : OpenClaim := { program := "ytlkamicaoljefaa", sum := "d9488ac2ab0d1cb68d1a9e5161db5e090a84834a61eaa2d19a72af62bac6dc58", func := "loop.example/g01149/laws.FnExactBestShift", spec := "fnExactBestShift", apart := false }
def FnExactBestShiftSaid : Prop := fnExactBestShiftRow.holds Try.pinned (OpenSpec.ofChange fnExactBestShiftSpec)

/-- ITS FALSE NEIGHBOUR: 'it returns false'. Refute it at one input. -/
def fnExactBestShiftWrong : ChangeSpec := { name := "fnExactBestShift", fn := fun _ => fun
  | [d1, d2] => { results := [.lit (.bool false)], args := [d1, d2] }
  | _ => none }
def FnExactBestShiftWrongFalsely : Prop := fnExactBestShiftRow.holds Try.pinned (OpenSpec.ofChange fnExactBestShiftWrong)

/-- 'laws.FnShifted': WHATEVER THE INPUT: true; the input reads as it did. -/
def fnShiftedSpec : ChangeSpec := { name := "fnShifted", fn := fun _ => fun
  | [d1, d2] => { results := [.lit (.bool true)], args := [d1, d2] }
  | _ => none }
def fnShiftedRow : OpenClaim := { program := "ytlkamicaoljefaa", sum := "d9488ac2ab0d1cb68d1a9e5161db5e090a84834a61eaa2d19a72af62bac6dc58", func := "loop.example/g01149/laws.FnShifted", spec := "fnShifted", apart := false }
def FnShiftedSaid : Prop := fnShiftedRow.holds Try.pinned (OpenSpec.ofChange fnShiftedSpec)

/-- ITS FALSE NEIGHBOUR: 'it returns false'. Refute it at one input. -/
def fnShiftedWrong : ChangeSpec := { name := "fnShifted", fn := fun _ => fun
  | [d1, d2] => { results := [.lit (.bool false)], args := [d1, d2] }
  | _ => none }
def FnShiftedWrongFalsely : Prop := fnShiftedRow.holds Try.pinned (OpenSpec.ofChange fnShiftedWrong)

/-- 'laws.FnExactBoxOf': WHATEVER THE INPUT: true; the input reads as it did. -/
def fnExactBoxOfSpec : ChangeSpec := { name := "fnExactBoxOf", fn := fun _ => fun
  | [d] => { results := [.lit (.bool true)], args := [d] }
  | _ => none }
def fnExactBoxOfRow : OpenClaim := { program := "ytlkamicaoljefaa", sum := "d9488ac2ab0d1cb68d1a9e5161db5e090a84834a61eaa2d19a72af62bac6dc58", func := "loop.example/g01149/laws.FnExactBoxOf", spec := "fnExactBoxOf", unfollowed := true, recurses := true, apart := false }
def FnExactBoxOfSaid : Prop := fnExactBoxOfRow.holds Try.pinned (OpenSpec.ofChange fnExactBoxOfSpec)

/-- ITS FALSE NEIGHBOUR: 'it returns false'. Refute it at one input. -/
def fnExactBoxOfWrong : ChangeSpec := { name := "fnExactBoxOf", fn := fun _ => fun
  | [d] => { results := [.lit (.bool false)], args := [d] }
  | _ => none }
def FnExactBoxOfWrongFalsely : Prop := fnExactBoxOfRow.holds Try.pinned (OpenSpec.ofChange fnExactBoxOfWrong)

/-- 'laws.FnExactRiverLength': WHATEVER THE INPUT: true; the input reads as it did. -/
def fnExactRiverLengthSpec : ChangeSpec := { name := "fnExactRiverLength", fn := fun _ => fun
  | [d1, d2, d3] => { results := [.lit (.bool true)], args := [d1, d2, d3] }
  | _ => none }
def fnExactRiverLengthRow : OpenClaim := { program := "ytlkamicaoljefaa", sum := "d9488ac2ab0d1cb68d1a9e5161db5e090a84834a61eaa2d19a72af62bac6dc58", func := "loop.example/g01149/laws.FnExactRiverLength", spec := "fnExactRiverLength", unfollowed := true, recurses := true, apart := false }
def FnExactRiverLengthSaid : Prop := fnExactRiverLengthRow.holds Try.pinned (OpenSpec.ofChange fnExactRiverLengthSpec)

/-- ITS FALSE NEIGHBOUR: 'it returns false'. Refute it at one input. -/
def fnExactRiverLengthWrong : ChangeSpec := { name := "fnExactRiverLength", fn := fun _ => fun
  | [d1, d2, d3] => { results := [.lit (.bool false)], args := [d1, d2, d3] }
  | _ => none }
def FnExactRiverLengthWrongFalsely : Prop := fnExactRiverLengthRow.holds Try.pinned (OpenSpec.ofChange fnExactRiverLengthWrong)

/-- 'laws.FnExactRiverBends': WHATEVER THE INPUT: true; the input reads as it did. -/
def fnExactRiverBendsSpec : ChangeSpec := { name := "fnExactRiverBends", fn := fun _ => fun
  | [d1, d2, d3] => { results := [.lit (.bool true)], args := [d1, d2, d3] }
  | _ => none }
def fnExactRiverBendsRow : OpenClaim := { program := "ytlkamicaoljefaa", sum := "d9488ac2ab0d1cb68d1a9e5161db5e090a84834a61eaa2d19a72af62bac6dc58", func := "loop.example/g01149/laws.FnExactRiverBends", spec := "fnExactRiverBends", unfollowed := true, recurses := true, apart := false }
def FnExactRiverBendsSaid : Prop := fnExactRiverBendsRow.holds Try.pinned (OpenSpec.ofChange fnExactRiverBendsSpec)

/-- ITS FALSE NEIGHBOUR: 'it returns false'. Refute it at one input. -/
def fnExactRiverBendsWrong : ChangeSpec := { name := "fnExactRiverBends", fn := fun _ => fun
  | [d1, d2, d3] => { results := [.lit (.bool false)], args := [d1, d2, d3] }
  | _ => none }
def FnExactRiverBendsWrongFalsely : Prop := fnExactRiverBendsRow.holds Try.pinned (OpenSpec.ofChange fnExactRiverBendsWrong)

/-- 'laws.FnExactRiverWire': WHATEVER THE INPUT: true; the input reads as it did. -/
def fnExactRiverWireSpec : ChangeSpec := { name := "fnExactRiverWire", fn := fun _ => fun
  | [d1, d2, d3, d4] => { results := [.lit (.bool true)], args := [d1, d2, d3, d4] }
  | _ => none }
def fnExactRiverWireRow : OpenClaim := { program := "ytlkamicaoljefaa", sum := "d9488ac2ab0d1cb68d1a9e5161db5e090a84834a61eaa2d19a72af62bac6dc58", func := "loop.example/g01149/laws.FnExactRiverWire", spec := "fnExactRiverWire", unfollowed := true, recurses := true, apart := false }
def FnExactRiverWireSaid : Prop := fnExactRiverWireRow.holds Try.pinned (OpenSpec.ofChange fnExactRiverWireSpec)

/-- ITS FALSE NEIGHBOUR: 'it returns false'. Refute it at one input. -/
def fnExactRiverWireWrong : ChangeSpec := { name := "fnExactRiverWire", fn := fun _ => fun
  | [d1, d2, d3, d4] => { results := [.lit (.bool false)], args := [d1, d2, d3, d4] }
  | _ => none }
def FnExactRiverWireWrongFalsely : Prop := fnExactRiverWireRow.holds Try.pinned (OpenSpec.ofChange fnExactRiverWireWrong)

/-- 'laws.FnExactArePins': WHATEVER THE INPUT: true; the input reads as it did. -/
def fnExactArePinsSpec : ChangeSpec := { name := "fnExactArePins", fn := fun _ => fun
  | [d] => { results := [.lit (.bool true)], args := [d] }
  | _ => none }
def fnExactArePinsRow : OpenClaim := { program := "ytlkamicaoljefaa", sum := "d9488ac2ab0d1cb68d1a9e5161db5e090a84834a61eaa2d19a72af62bac6dc58", func := "loop.example/g01149/laws.FnExactArePins", spec := "fnExactArePins", unfollowed := true, recurses := true, apart := false }
def FnExactArePinsSaid : Prop := fnExactArePinsRow.holds Try.pinned (OpenSpec.ofChange fnExactArePinsSpec)

/-- ITS FALSE NEIGHBOUR: 'it returns false'. Refute it at one input. -/
def fnExactArePinsWrong : ChangeSpec := { name := "fnExactArePins", fn := fun _ => fun
  | [d] => { results := [.lit (.bool false)], args := [d] }
  | _ => none }
def FnExactArePinsWrongFalsely : Prop := fnExactArePinsRow.holds Try.pinned (OpenSpec.ofChange fnExactArePinsWrong)

/-- 'laws.FnExactSortPoints': WHATEVER THE INPUT: true; the input reads as it did. -/
def fnExactSortPointsSpec : ChangeSpec := { name := "fnExactSortPoints", fn := fun _ => fun
  | [d] => { results := [.lit (.bool true)], args := [d] }
  | _ => none }
def fnExactSortPointsRow : OpenClaim := { program := "ytlkamicaoljefaa", sum := "d9488ac2ab0d1cb68d1a9e5161db5e090a84834a61eaa2d19a72af62bac6dc58", func := "loop.example/g01149/laws.FnExactSortPoints", spec := "fnExactSortPoints", unfollowed := true, recurses := true, apart := false }
def FnExactSortPointsSaid : Prop := fnExactSortPointsRow.holds Try.pinned (OpenSpec.ofChange fnExactSortPointsSpec)

/-- ITS FALSE NEIGHBOUR: 'it returns false'. Refute it at one input. -/
def fnExactSortPointsWrong : ChangeSpec := { name := "fnExactSortPoints", fn := fun _ => fun
  | [d] => { results := [.lit (.bool false)], args := [d] }
  | _ => none }
def FnExactSortPointsWrongFalsely : Prop := fnExactSortPointsRow.holds Try.pinned (OpenSpec.ofChange fnExactSortPointsWrong)

/- THE SECOND FORM. 'bulk': how many values and letters a reading holds, each counted each time it is reached (what is shared counts as often as it is met; a slice's spare places count too). A statement '..UptoSaid' is the law's where the arguments, and the package variables that the reading takes, are together of bulk at most 1048576: NARROWER than '..Said'. Prove '..Said' where nothing that the law and all that it calls make is longer than what came in: it says more and counts as full. Else prove '..UptoSaid'. A law counts once. -/
mutual
def uptoBulk {H : Type} : DataW H → Nat
  | .lit (.string bytes) => bytes.length + 1
  | .lit _ => 1
  | .nil => 1
  | .ptr d => uptoBulk d + 1
  | .slice elems spare => uptoBulkAll elems + uptoBulkAll spare + 1
  | .agg parts => uptoBulkAll parts + 1
  | .iface _ d => uptoBulk d + 1
  | .map entries => uptoBulkEntries entries + 1
  | .held _ => 1
def uptoBulkAll {H : Type} : List (DataW H) → Nat
  | [] => 0
  | d :: r => uptoBulk d + uptoBulkAll r
def uptoBulkEntries {H : Type} : List (Lit × DataW H) → Nat
  | [] => 0
  | x :: r => uptoBulkEntry x + uptoBulkEntries r
def uptoBulkEntry {H : Type} : Lit × DataW H → Nat
  | (.string bytes, d) => bytes.length + uptoBulk d + 1
  | (_, d) => uptoBulk d + 1
 end
def uptoSmall : (H : Type) → List (DataW H) → Bool := fun _ ds => decide (uptoBulkAll ds ≤ 1048576)
def OpenSpec.upto (s : _root_.Go.ChangeSpec) : _root_.Go.OpenSpec := { _root_.Go.OpenSpec.ofChange s with cond := some uptoSmall }

/-- 'laws.FnExactConstants', WHERE WHAT IT READS IS OF BULK AT MOST 1048576: true; the input reads as it did. -/
def fnExactConstantsUptoRow : OpenClaim := { program := "ytlkamicaoljefaa", sum := "d9488ac2ab0d1cb68d1a9e5161db5e090a84834a61eaa2d19a72af62bac6dc58", func := "loop.example/g01149/laws.FnExactConstants", spec := "fnExactConstants", apart := false, narrowed := true }
def FnExactConstantsUptoSaid : Prop := fnExactConstantsUptoRow.holds Try.pinned (OpenSpec.upto fnExactConstantsSpec)

/-- 'laws.FnExactIsPoint', WHERE WHAT IT READS IS OF BULK AT MOST 1048576: true; the input reads as it did. -/
def fnExactIsPointUptoRow : OpenClaim := { program := "ytlkamicaoljefaa", sum := "d9488ac2ab0d1cb68d1a9e5161db5e090a84834a61eaa2d19a72af62bac6dc58", func := "loop.example/g01149/laws.FnExactIsPoint", spec := "fnExactIsPoint", apart := false, narrowed := true }
def FnExactIsPointUptoSaid : Prop := fnExactIsPointUptoRow.holds Try.pinned (OpenSpec.upto fnExactIsPointSpec)

/-- 'laws.FnExactIsName', WHERE WHAT IT READS IS OF BULK AT MOST 1048576: true; the input reads as it did. -/
def fnExactIsNameUptoRow : OpenClaim := { program := "ytlkamicaoljefaa", sum := "d9488ac2ab0d1cb68d1a9e5161db5e090a84834a61eaa2d19a72af62bac6dc58", func := "loop.example/g01149/laws.FnExactIsName", spec := "fnExactIsName", apart := false, narrowed := true }
def FnExactIsNameUptoSaid : Prop := fnExactIsNameUptoRow.holds Try.pinned (OpenSpec.upto fnExactIsNameSpec)

/-- 'laws.FnExactCheckOf', WHERE WHAT IT READS IS OF BULK AT MOST 1048576: true; the input reads as it did. -/
def fnExactCheckOfUptoRow : OpenClaim := { program := "ytlkamicaoljefaa", sum := "d9488ac2ab0d1cb68d1a9e5161db5e090a84834a61eaa2d19a72af62bac6dc58", func := "loop.example/g01149/laws.FnExactCheckOf", spec := "fnExactCheckOf", apart := false, narrowed := true }
def FnExactCheckOfUptoSaid : Prop := fnExactCheckOfUptoRow.holds Try.pinned (OpenSpec.upto fnExactCheckOfSpec)

/-- 'laws.FnExactValidRiver', WHERE WHAT IT READS IS OF BULK AT MOST 1048576: true; the input reads as it did. -/
def fnExactValidRiverUptoRow : OpenClaim := { program := "ytlkamicaoljefaa", sum := "d9488ac2ab0d1cb68d1a9e5161db5e090a84834a61eaa2d19a72af62bac6dc58", func := "loop.example/g01149/laws.FnExactValidRiver", spec := "fnExactValidRiver", apart := false, narrowed := true }
def FnExactValidRiverUptoSaid : Prop := fnExactValidRiverUptoRow.holds Try.pinned (OpenSpec.upto fnExactValidRiverSpec)

/-- 'laws.FnExactMedianPoint', WHERE WHAT IT READS IS OF BULK AT MOST 1048576: true; the input reads as it did. -/
def fnExactMedianPointUptoRow : OpenClaim := { program := "ytlkamicaoljefaa", sum := "d9488ac2ab0d1cb68d1a9e5161db5e090a84834a61eaa2d19a72af62bac6dc58", func := "loop.example/g01149/laws.FnExactMedianPoint", spec := "fnExactMedianPoint", apart := false, narrowed := true }
def FnExactMedianPointUptoSaid : Prop := fnExactMedianPointUptoRow.holds Try.pinned (OpenSpec.upto fnExactMedianPointSpec)

/-- 'laws.FnExactArePoints', WHERE WHAT IT READS IS OF BULK AT MOST 1048576: true; the input reads as it did. -/
def fnExactArePointsUptoRow : OpenClaim := { program := "ytlkamicaoljefaa", sum := "d9488ac2ab0d1cb68d1a9e5161db5e090a84834a61eaa2d19a72af62bac6dc58", func := "loop.example/g01149/laws.FnExactArePoints", spec := "fnExactArePoints", unfollowed := true, recurses := true, apart := false, narrowed := true }
def FnExactArePointsUptoSaid : Prop := fnExactArePointsUptoRow.holds Try.pinned (OpenSpec.upto fnExactArePointsSpec)

/-- 'laws.FnExactFitsRiver', WHERE WHAT IT READS IS OF BULK AT MOST 1048576: true; the input reads as it did. -/
def fnExactFitsRiverUptoRow : OpenClaim := { program := "ytlkamicaoljefaa", sum := "d9488ac2ab0d1cb68d1a9e5161db5e090a84834a61eaa2d19a72af62bac6dc58", func := "loop.example/g01149/laws.FnExactFitsRiver", spec := "fnExactFitsRiver", apart := false, narrowed := true }
def FnExactFitsRiverUptoSaid : Prop := fnExactFitsRiverUptoRow.holds Try.pinned (OpenSpec.upto fnExactFitsRiverSpec)

/-- 'laws.FnTight', WHERE WHAT IT READS IS OF BULK AT MOST 1048576: true; the input reads as it did. -/
def fnTightUptoRow : OpenClaim := { program := "ytlkamicaoljefaa", sum := "d9488ac2ab0d1cb68d1a9e5161db5e090a84834a61eaa2d19a72af62bac6dc58", func := "loop.example/g01149/laws.FnTight", spec := "fnTight", apart := false, narrowed := true }
def FnTightUptoSaid : Prop := fnTightUptoRow.holds Try.pinned (OpenSpec.upto fnTightSpec)

/-- 'laws.FnExactTightPins', WHERE WHAT IT READS IS OF BULK AT MOST 1048576: true; the input reads as it did. -/
def fnExactTightPinsUptoRow : OpenClaim := { program := "ytlkamicaoljefaa", sum := "d9488ac2ab0d1cb68d1a9e5161db5e090a84834a61eaa2d19a72af62bac6dc58", func := "loop.example/g01149/laws.FnExactTightPins", spec := "fnExactTightPins", apart := false, narrowed := true }
def FnExactTightPinsUptoSaid : Prop := fnExactTightPinsUptoRow.holds Try.pinned (OpenSpec.upto fnExactTightPinsSpec)

/-- 'laws.FnExactLeastTracks', WHERE WHAT IT READS IS OF BULK AT MOST 1048576: true; the input reads as it did. -/
def fnExactLeastTracksUptoRow : OpenClaim := { program := "ytlkamicaoljefaa", sum := "d9488ac2ab0d1cb68d1a9e5161db5e090a84834a61eaa2d19a72af62bac6dc58", func := "loop.example/g01149/laws.FnExactLeastTracks", spec := "fnExactLeastTracks", apart := false, narrowed := true }
def FnExactLeastTracksUptoSaid : Prop := fnExactLeastTracksUptoRow.holds Try.pinned (OpenSpec.upto fnExactLeastTracksSpec)

/-- 'laws.FnExactShiftRange', WHERE WHAT IT READS IS OF BULK AT MOST 1048576: true; the input reads as it did. -/
def fnExactShiftRangeUptoRow : OpenClaim := { program := "ytlkamicaoljefaa", sum := "d9488ac2ab0d1cb68d1a9e5161db5e090a84834a61eaa2d19a72af62bac6dc58", func := "loop.example/g01149/laws.FnExactShiftRange", spec := "fnExactShiftRange", apart := false, narrowed := true }
def FnExactShiftRangeUptoSaid : Prop := fnExactShiftRangeUptoRow.holds Try.pinned (OpenSpec.upto fnExactShiftRangeSpec)

/-- 'laws.FnExactBestShift', WHERE WHAT IT READS IS OF BULK AT MOST 1048576: true; the input reads as it did. -/
def fnExactBestShiftUptoRow : OpenClaim := { program := "ytlkamicaoljefaa", sum := "d9488ac2ab0d1cb68d1a9e5161db5e090a84834a61eaa2d19a72af62bac6dc58", func := "loop.example/g01149/laws.FnExactBestShift", spec := "fnExactBestShift", apart := false, narrowed := true }
def FnExactBestShiftUptoSaid : Prop := fnExactBestShiftUptoRow.holds Try.pinned (OpenSpec.upto fnExactBestShiftSpec)

/-- 'laws.FnShifted', WHERE WHAT IT READS IS OF BULK AT MOST 1048576: true; the input reads as it did. -/
def fnShiftedUptoRow : OpenClaim := { program := "ytlkamicaoljefaa", sum := "d9488ac2ab0d1cb68d1a9e5161db5e090a84834a61eaa2d19a72af62bac6dc58", func := "loop.example/g01149/laws.FnShifted", spec := "fnShifted", apart := false, narrowed := true }
def FnShiftedUptoSaid : Prop := fnShiftedUptoRow.holds Try.pinned (OpenSpec.upto fnShiftedSpec)

/-- 'laws.FnExactBoxOf', WHERE WHAT IT READS IS OF BULK AT MOST 1048576: true; the input reads as it did. -/
def fnExactBoxOfUptoRow : OpenClaim := { program := "ytlkamicaoljefaa", sum := "d9488ac2ab0d1cb68d1a9e5161db5e090a84834a61eaa2d19a72af62bac6dc58", func := "loop.example/g01149/laws.FnExactBoxOf", spec := "fnExactBoxOf", unfollowed := true, recurses := true, apart := false, narrowed := true }
def FnExactBoxOfUptoSaid : Prop := fnExactBoxOfUptoRow.holds Try.pinned (OpenSpec.upto fnExactBoxOfSpec)

/-- 'laws.FnExactRiverLength', WHERE WHAT IT READS IS OF BULK AT MOST 1048576: true; the input reads as it did. -/
def fnExactRiverLengthUptoRow : OpenClaim := { program := "ytlkamicaoljefaa", sum := "d9488ac2ab0d1cb68d1a9e5161db5e090a84834a61eaa2d19a72af62bac6dc58", func := "loop.example/g01149/laws.FnExactRiverLength", spec := "fnExactRiverLength", unfollowed := true, recurses := true, apart := false, narrowed := true }
def FnExactRiverLengthUptoSaid : Prop := fnExactRiverLengthUptoRow.holds Try.pinned (OpenSpec.upto fnExactRiverLengthSpec)

/-- 'laws.FnExactRiverBends', WHERE WHAT IT READS IS OF BULK AT MOST 1048576: true; the input reads as it did. -/
def fnExactRiverBendsUptoRow : OpenClaim := { program := "ytlkamicaoljefaa", sum := "d9488ac2ab0d1cb68d1a9e5161db5e090a84834a61eaa2d19a72af62bac6dc58", func := "loop.example/g01149/laws.FnExactRiverBends", spec := "fnExactRiverBends", unfollowed := true, recurses := true, apart := false, narrowed := true }
def FnExactRiverBendsUptoSaid : Prop := fnExactRiverBendsUptoRow.holds Try.pinned (OpenSpec.upto fnExactRiverBendsSpec)

/-- 'laws.FnExactRiverWire', WHERE WHAT IT READS IS OF BULK AT MOST 1048576: true; the input reads as it did. -/
def fnExactRiverWireUptoRow : OpenClaim := { program := "ytlkamicaoljefaa", sum := "d9488ac2ab0d1cb68d1a9e5161db5e090a84834a61eaa2d19a72af62bac6dc58", func := "loop.example/g01149/laws.FnExactRiverWire", spec := "fnExactRiverWire", unfollowed := true, recurses := true, apart := false, narrowed := true }
def FnExactRiverWireUptoSaid : Prop := fnExactRiverWireUptoRow.holds Try.pinned (OpenSpec.upto fnExactRiverWireSpec)

/-- 'laws.FnExactArePins', WHERE WHAT IT READS IS OF BULK AT MOST 1048576: true; the input reads as it did. -/
def fnExactArePinsUptoRow : OpenClaim := { program := "ytlkamicaoljefaa", sum := "d9488ac2ab0d1cb68d1a9e5161db5e090a84834a61eaa2d19a72af62bac6dc58", func := "loop.example/g01149/laws.FnExactArePins", spec := "fnExactArePins", unfollowed := true, recurses := true, apart := false, narrowed := true }
def FnExactArePinsUptoSaid : Prop := fnExactArePinsUptoRow.holds Try.pinned (OpenSpec.upto fnExactArePinsSpec)

/-- 'laws.FnExactSortPoints', WHERE WHAT IT READS IS OF BULK AT MOST 1048576: true; the input reads as it did. -/
def fnExactSortPointsUptoRow : OpenClaim := { program := "ytlkamicaoljefaa", sum := "d9488ac2ab0d1cb68d1a9e5161db5e090a84834a61eaa2d19a72af62bac6dc58", func := "loop.example/g01149/laws.FnExactSortPoints", spec := "fnExactSortPoints", unfollowed := true, recurses := true, apart := false, narrowed := true }
def FnExactSortPointsUptoSaid : Prop := fnExactSortPointsUptoRow.holds Try.pinned (OpenSpec.upto fnExactSortPointsSpec)

end Rows
end Go.Proofs.Ytlkamicaoljefaa
