/-
  No cell of these rows narrows 'for every input' (looked for: loops, veiled, ifaces, maps, wideKeys, modest, calm, conditions, laid).
  DERIVED. THE GIVEN ROWS OF THIS SEAT. 11 by the template 'for every input the law returns true; each argument reads behind the call as it read before'; 0 by the template 'total and deterministic' (their statements: YtdphlhplcmjepaaTotals.lean).
  GIVEN WITH THE SEED: the statements are not yours to turn. If you find one false, say at which input.
  Laid BY PROGRAM, IN A SANDBOX (cutbox-rows.mjs): the forced cells as the released guide's own fill.sh prints them over the translation d5d9a117598be8cb… (all of the seat's roots in one cut). By AI agents, Wed Nov 11 2026. No macro, syntax, notation, axiom, sorry.
-/
import Derived.Test.YtdphlhplcmjepaaChecked
import GoSem.Claim
import GoSem.ClaimJoined
import GoSem.ClaimMapViews
import Derived.JoinedTies
import Derived.KernelRfl
namespace Go.Proofs.Ytdphlhplcmjepaa
/- THE CELL 'sum', in the pinned program and in every row, IS THE sha256 OF THE DUMP (.gsa) THAT YtdphlhplcmjepaaProg.lean LOADS. Nothing in Lean hashes anything: it is a label: what it is worth is what the hold of that sum in a sandbox is worth. -/
noncomputable def Try.pinned : Pinned := { name := "ytdphlhplcmjepaa", sum := "d5d9a117598be8cbe8ce14e5cd816bc86d1e964b4fbc4286ee81a2e0f5bfb332", checked := Try.checked }
namespace Rows
def none {H : Type} : Left H := { results := [], args := [] }

/-- 'laws.FnExactValidChannel': WHATEVER THE INPUT: true; the input reads as it did. -/
def fnExactValidChannelSpec : ChangeSpec := { name := "fnExactValidChannel", fn := fun _ => fun
  | [d] => { results := [.lit (.bool true)], args := [d] }
  | _ => none }
def fnExactValidChannelRow : OpenClaim := { program := "ytdphlhplcmjepaa", sum := "d5d9a117598be8cbe8ce14e5cd816bc86d1e964b4fbc4286ee81a2e0f5bfb332", func := "loop.example/g01149/laws.FnExactValidChannel", spec := "fnExactValidChannel", plainKeys := false, apart := false }
def FnExactValidChannelSaid : Prop := fnExactValidChannelRow.holds Try.pinned (OpenSpec.ofChange fnExactValidChannelSpec)

/-- ITS FALSE NEIGHBOUR: 'it returns false'. Refute it at one input. -/
def fnExactValidChannelWrong : ChangeSpec := { name := "fnExactValidChannel", fn := fun _ => fun
  | [d] => { results := [.lit (.bool false)], args := [d] }
  | _ => none }
def FnExactValidChannelWrongFalsely : Prop := fnExactValidChannelRow.holds Try.pinned (OpenSpec.ofChange fnExactValidChannelWrong)

/-- 'laws.FnExactSpanOf': WHATEVER THE INPUT: true; the input reads as it did. -/
def fnExactSpanOfSpec : ChangeSpec := { name := "fnExactSpanOf", fn := fun _ => fun
  | [d1, d2] => { results := [.lit (.bool true)], args := [d1, d2] }
  | _ => none }
def fnExactSpanOfRow : OpenClaim := { program := "ytdphlhplcmjepaa", sum := "d5d9a117598be8cbe8ce14e5cd816bc86d1e964b4fbc4286ee81a2e0f5bfb332", func := "loop.example/g01149/laws.FnExactSpanOf", spec := "fnExactSpanOf", plainKeys := false, apart := false }
def FnExactSpanOfSaid : Prop := fnExactSpanOfRow.holds Try.pinned (OpenSpec.ofChange fnExactSpanOfSpec)

/-- ITS FALSE NEIGHBOUR: 'it returns false'. Refute it at one input. -/
def fnExactSpanOfWrong : ChangeSpec := { name := "fnExactSpanOf", fn := fun _ => fun
  | [d1, d2] => { results := [.lit (.bool false)], args := [d1, d2] }
  | _ => none }
def FnExactSpanOfWrongFalsely : Prop := fnExactSpanOfRow.holds Try.pinned (OpenSpec.ofChange fnExactSpanOfWrong)

/-- 'laws.FnExactNetsOf': WHATEVER THE INPUT: true; the input reads as it did. -/
def fnExactNetsOfSpec : ChangeSpec := { name := "fnExactNetsOf", fn := fun _ => fun
  | [d] => { results := [.lit (.bool true)], args := [d] }
  | _ => none }
def fnExactNetsOfRow : OpenClaim := { program := "ytdphlhplcmjepaa", sum := "d5d9a117598be8cbe8ce14e5cd816bc86d1e964b4fbc4286ee81a2e0f5bfb332", func := "loop.example/g01149/laws.FnExactNetsOf", spec := "fnExactNetsOf", plainKeys := false, apart := false }
def FnExactNetsOfSaid : Prop := fnExactNetsOfRow.holds Try.pinned (OpenSpec.ofChange fnExactNetsOfSpec)

/-- ITS FALSE NEIGHBOUR: 'it returns false'. Refute it at one input. -/
def fnExactNetsOfWrong : ChangeSpec := { name := "fnExactNetsOf", fn := fun _ => fun
  | [d] => { results := [.lit (.bool false)], args := [d] }
  | _ => none }
def FnExactNetsOfWrongFalsely : Prop := fnExactNetsOfRow.holds Try.pinned (OpenSpec.ofChange fnExactNetsOfWrong)

/-- 'laws.FnExactDensityAt': WHATEVER THE INPUT: true; the input reads as it did. -/
def fnExactDensityAtSpec : ChangeSpec := { name := "fnExactDensityAt", fn := fun _ => fun
  | [d1, d2] => { results := [.lit (.bool true)], args := [d1, d2] }
  | _ => none }
def fnExactDensityAtRow : OpenClaim := { program := "ytdphlhplcmjepaa", sum := "d5d9a117598be8cbe8ce14e5cd816bc86d1e964b4fbc4286ee81a2e0f5bfb332", func := "loop.example/g01149/laws.FnExactDensityAt", spec := "fnExactDensityAt", plainKeys := false, apart := false }
def FnExactDensityAtSaid : Prop := fnExactDensityAtRow.holds Try.pinned (OpenSpec.ofChange fnExactDensityAtSpec)

/-- ITS FALSE NEIGHBOUR: 'it returns false'. Refute it at one input. -/
def fnExactDensityAtWrong : ChangeSpec := { name := "fnExactDensityAt", fn := fun _ => fun
  | [d1, d2] => { results := [.lit (.bool false)], args := [d1, d2] }
  | _ => none }
def FnExactDensityAtWrongFalsely : Prop := fnExactDensityAtRow.holds Try.pinned (OpenSpec.ofChange fnExactDensityAtWrong)

/-- 'laws.FnExactDensityOf': WHATEVER THE INPUT: true; the input reads as it did. -/
def fnExactDensityOfSpec : ChangeSpec := { name := "fnExactDensityOf", fn := fun _ => fun
  | [d] => { results := [.lit (.bool true)], args := [d] }
  | _ => none }
def fnExactDensityOfRow : OpenClaim := { program := "ytdphlhplcmjepaa", sum := "d5d9a117598be8cbe8ce14e5cd816bc86d1e964b4fbc4286ee81a2e0f5bfb332", func := "loop.example/g01149/laws.FnExactDensityOf", spec := "fnExactDensityOf", plainKeys := false, apart := false }
def FnExactDensityOfSaid : Prop := fnExactDensityOfRow.holds Try.pinned (OpenSpec.ofChange fnExactDensityOfSpec)

/-- ITS FALSE NEIGHBOUR: 'it returns false'. Refute it at one input. -/
def fnExactDensityOfWrong : ChangeSpec := { name := "fnExactDensityOf", fn := fun _ => fun
  | [d] => { results := [.lit (.bool false)], args := [d] }
  | _ => none }
def FnExactDensityOfWrongFalsely : Prop := fnExactDensityOfRow.holds Try.pinned (OpenSpec.ofChange fnExactDensityOfWrong)

/-- 'laws.FnExactMustBeAbove': WHATEVER THE INPUT: true; the input reads as it did. -/
def fnExactMustBeAboveSpec : ChangeSpec := { name := "fnExactMustBeAbove", fn := fun _ => fun
  | [d1, d2, d3] => { results := [.lit (.bool true)], args := [d1, d2, d3] }
  | _ => none }
def fnExactMustBeAboveRow : OpenClaim := { program := "ytdphlhplcmjepaa", sum := "d5d9a117598be8cbe8ce14e5cd816bc86d1e964b4fbc4286ee81a2e0f5bfb332", func := "loop.example/g01149/laws.FnExactMustBeAbove", spec := "fnExactMustBeAbove", plainKeys := false, apart := false }
def FnExactMustBeAboveSaid : Prop := fnExactMustBeAboveRow.holds Try.pinned (OpenSpec.ofChange fnExactMustBeAboveSpec)

/-- ITS FALSE NEIGHBOUR: 'it returns false'. Refute it at one input. -/
def fnExactMustBeAboveWrong : ChangeSpec := { name := "fnExactMustBeAbove", fn := fun _ => fun
  | [d1, d2, d3] => { results := [.lit (.bool false)], args := [d1, d2, d3] }
  | _ => none }
def FnExactMustBeAboveWrongFalsely : Prop := fnExactMustBeAboveRow.holds Try.pinned (OpenSpec.ofChange fnExactMustBeAboveWrong)

/-- 'laws.FnExactPiecesOf': WHATEVER THE INPUT: true; the input reads as it did. -/
def fnExactPiecesOfSpec : ChangeSpec := { name := "fnExactPiecesOf", fn := fun _ => fun
  | [d] => { results := [.lit (.bool true)], args := [d] }
  | _ => none }
def fnExactPiecesOfRow : OpenClaim := { program := "ytdphlhplcmjepaa", sum := "d5d9a117598be8cbe8ce14e5cd816bc86d1e964b4fbc4286ee81a2e0f5bfb332", func := "loop.example/g01149/laws.FnExactPiecesOf", spec := "fnExactPiecesOf", plainKeys := false, apart := false }
def FnExactPiecesOfSaid : Prop := fnExactPiecesOfRow.holds Try.pinned (OpenSpec.ofChange fnExactPiecesOfSpec)

/-- ITS FALSE NEIGHBOUR: 'it returns false'. Refute it at one input. -/
def fnExactPiecesOfWrong : ChangeSpec := { name := "fnExactPiecesOf", fn := fun _ => fun
  | [d] => { results := [.lit (.bool false)], args := [d] }
  | _ => none }
def FnExactPiecesOfWrongFalsely : Prop := fnExactPiecesOfRow.holds Try.pinned (OpenSpec.ofChange fnExactPiecesOfWrong)

/-- 'laws.FnExactCycleOf': WHATEVER THE INPUT: true; the input reads as it did. -/
def fnExactCycleOfSpec : ChangeSpec := { name := "fnExactCycleOf", fn := fun _ => fun
  | [d] => { results := [.lit (.bool true)], args := [d] }
  | _ => none }
def fnExactCycleOfRow : OpenClaim := { program := "ytdphlhplcmjepaa", sum := "d5d9a117598be8cbe8ce14e5cd816bc86d1e964b4fbc4286ee81a2e0f5bfb332", func := "loop.example/g01149/laws.FnExactCycleOf", spec := "fnExactCycleOf", unfollowed := true, recurses := true, plainKeys := false, apart := false }
def FnExactCycleOfSaid : Prop := fnExactCycleOfRow.holds Try.pinned (OpenSpec.ofChange fnExactCycleOfSpec)

/-- ITS FALSE NEIGHBOUR: 'it returns false'. Refute it at one input. -/
def fnExactCycleOfWrong : ChangeSpec := { name := "fnExactCycleOf", fn := fun _ => fun
  | [d] => { results := [.lit (.bool false)], args := [d] }
  | _ => none }
def FnExactCycleOfWrongFalsely : Prop := fnExactCycleOfRow.holds Try.pinned (OpenSpec.ofChange fnExactCycleOfWrong)

/-- 'laws.FnExactLongestChain': WHATEVER THE INPUT: true; the input reads as it did. -/
def fnExactLongestChainSpec : ChangeSpec := { name := "fnExactLongestChain", fn := fun _ => fun
  | [d] => { results := [.lit (.bool true)], args := [d] }
  | _ => none }
def fnExactLongestChainRow : OpenClaim := { program := "ytdphlhplcmjepaa", sum := "d5d9a117598be8cbe8ce14e5cd816bc86d1e964b4fbc4286ee81a2e0f5bfb332", func := "loop.example/g01149/laws.FnExactLongestChain", spec := "fnExactLongestChain", recurses := true, plainKeys := false, apart := false }
def FnExactLongestChainSaid : Prop := fnExactLongestChainRow.holds Try.pinned (OpenSpec.ofChange fnExactLongestChainSpec)

/-- ITS FALSE NEIGHBOUR: 'it returns false'. Refute it at one input. -/
def fnExactLongestChainWrong : ChangeSpec := { name := "fnExactLongestChain", fn := fun _ => fun
  | [d] => { results := [.lit (.bool false)], args := [d] }
  | _ => none }
def FnExactLongestChainWrongFalsely : Prop := fnExactLongestChainRow.holds Try.pinned (OpenSpec.ofChange fnExactLongestChainWrong)

/-- 'laws.FnExactIsRouting': WHATEVER THE INPUT: true; the input reads as it did. -/
def fnExactIsRoutingSpec : ChangeSpec := { name := "fnExactIsRouting", fn := fun _ => fun
  | [d1, d2] => { results := [.lit (.bool true)], args := [d1, d2] }
  | _ => none }
def fnExactIsRoutingRow : OpenClaim := { program := "ytdphlhplcmjepaa", sum := "d5d9a117598be8cbe8ce14e5cd816bc86d1e964b4fbc4286ee81a2e0f5bfb332", func := "loop.example/g01149/laws.FnExactIsRouting", spec := "fnExactIsRouting", plainKeys := false, apart := false }
def FnExactIsRoutingSaid : Prop := fnExactIsRoutingRow.holds Try.pinned (OpenSpec.ofChange fnExactIsRoutingSpec)

/-- ITS FALSE NEIGHBOUR: 'it returns false'. Refute it at one input. -/
def fnExactIsRoutingWrong : ChangeSpec := { name := "fnExactIsRouting", fn := fun _ => fun
  | [d1, d2] => { results := [.lit (.bool false)], args := [d1, d2] }
  | _ => none }
def FnExactIsRoutingWrongFalsely : Prop := fnExactIsRoutingRow.holds Try.pinned (OpenSpec.ofChange fnExactIsRoutingWrong)

/-- 'laws.FnExactIsPieceRouting': WHATEVER THE INPUT: true; the input reads as it did. -/
def fnExactIsPieceRoutingSpec : ChangeSpec := { name := "fnExactIsPieceRouting", fn := fun _ => fun
  | [d1, d2] => { results := [.lit (.bool true)], args := [d1, d2] }
  | _ => none }
def fnExactIsPieceRoutingRow : OpenClaim := { program := "ytdphlhplcmjepaa", sum := "d5d9a117598be8cbe8ce14e5cd816bc86d1e964b4fbc4286ee81a2e0f5bfb332", func := "loop.example/g01149/laws.FnExactIsPieceRouting", spec := "fnExactIsPieceRouting", plainKeys := false, apart := false }
def FnExactIsPieceRoutingSaid : Prop := fnExactIsPieceRoutingRow.holds Try.pinned (OpenSpec.ofChange fnExactIsPieceRoutingSpec)

/-- ITS FALSE NEIGHBOUR: 'it returns false'. Refute it at one input. -/
def fnExactIsPieceRoutingWrong : ChangeSpec := { name := "fnExactIsPieceRouting", fn := fun _ => fun
  | [d1, d2] => { results := [.lit (.bool false)], args := [d1, d2] }
  | _ => none }
def FnExactIsPieceRoutingWrongFalsely : Prop := fnExactIsPieceRoutingRow.holds Try.pinned (OpenSpec.ofChange fnExactIsPieceRoutingWrong)

/- THE SECOND FORM. 'bulk': how many values and letters a reading holds, each counted each time it is reached (what is shared counts as often as it is met; a slice's spare places count too). A statement '..UptoSaid' is the law's where the arguments, and the package variables that the reading takes, are together of bulk at most 1048576: NARROWER than '..Said'. Prove '..Said' where nothing that the law and all that it calls make is longer than what came in: it says more and counts as full. Else prove '..UptoSaid'. A law counts once. -/
mutual
def uptoBulk {H : Type} : DataW H → Nat
  | .lit (.string bytes) => bytes.length + 1
  | .lit _ => 1
  | .nil => 1
  | .ptr d => uptoBulk d + 1
  | .slice elems spare => uptoBulkAll elems + uptoBulkAll spare + 1
  | .agg parts => uptoBulkAll parts + 1
  | .iface _ d => uptoBulk d + 1
  | .map entries => uptoBulkEntries entries + 1
  | .held _ => 1
def uptoBulkAll {H : Type} : List (DataW H) → Nat
  | [] => 0
  | d :: r => uptoBulk d + uptoBulkAll r
def uptoBulkEntries {H : Type} : List (Lit × DataW H) → Nat
  | [] => 0
  | x :: r => uptoBulkEntry x + uptoBulkEntries r
def uptoBulkEntry {H : Type} : Lit × DataW H → Nat
  | (.string bytes, d) => bytes.length + uptoBulk d + 1
  | (_, d) => uptoBulk d + 1
 end
def uptoSmall : (H : Type) → List (DataW H) → Bool := fun _ ds => decide (uptoBulkAll ds ≤ 1048576)
def OpenSpec.upto (s : _root_.Go.ChangeSpec) : _root_.Go.OpenSpec := { _root_.Go.OpenSpec.ofChange s with cond := some uptoSmall }

/-- 'laws.FnExactValidChannel', WHERE WHAT IT READS IS OF BULK AT MOST 1048576: true; the input reads as it did. -/
def fnExactValidChannelUptoRow : OpenClaim := { program := "ytdphlhplcmjepaa", sum := "d5d9a117598be8cbe8ce14e5cd816bc86d1e964b4fbc4286ee81a2e0f5bfb332", func := "loop.example/g01149/laws.FnExactValidChannel", spec := "fnExactValidChannel", plainKeys := false, apart := false, narrowed := true }
def FnExactValidChannelUptoSaid : Prop := fnExactValidChannelUptoRow.holds Try.pinned (OpenSpec.upto fnExactValidChannelSpec)

/-- 'laws.FnExactSpanOf', WHERE WHAT IT READS IS OF BULK AT MOST 1048576: true; the input reads as it did. -/
def fnExactSpanOfUptoRow : OpenClaim := { program := "ytdphlhplcmjepaa", sum := "d5d9a117598be8cbe8ce14e5cd816bc86d1e964b4fbc4286ee81a2e0f5bfb332", func := "loop.example/g01149/laws.FnExactSpanOf", spec := "fnExactSpanOf", plainKeys := false, apart := false, narrowed := true }
def FnExactSpanOfUptoSaid : Prop := fnExactSpanOfUptoRow.holds Try.pinned (OpenSpec.upto fnExactSpanOfSpec)

/-- 'laws.FnExactNetsOf', WHERE WHAT IT READS IS OF BULK AT MOST 1048576: true; the input reads as it did. -/
def fnExactNetsOfUptoRow : OpenClaim := { program := "ytdphlhplcmjepaa", sum := "d5d9a117598be8cbe8ce14e5cd816bc86d1e964b4fbc4286ee81a2e0f5bfb332", func := "loop.example/g01149/laws.FnExactNetsOf", spec := "fnExactNetsOf", plainKeys := false, apart := false, narrowed := true }
def FnExactNetsOfUptoSaid : Prop := fnExactNetsOfUptoRow.holds Try.pinned (OpenSpec.upto fnExactNetsOfSpec)

/-- 'laws.FnExactDensityAt', WHERE WHAT IT READS IS OF BULK AT MOST 1048576: true; the input reads as it did. -/
def fnExactDensityAtUptoRow : OpenClaim := { program := "ytdphlhplcmjepaa", sum := "d5d9a117598be8cbe8ce14e5cd816bc86d1e964b4fbc4286ee81a2e0f5bfb332", func := "loop.example/g01149/laws.FnExactDensityAt", spec := "fnExactDensityAt", plainKeys := false, apart := false, narrowed := true }
def FnExactDensityAtUptoSaid : Prop := fnExactDensityAtUptoRow.holds Try.pinned (OpenSpec.upto fnExactDensityAtSpec)

/-- 'laws.FnExactDensityOf', WHERE WHAT IT READS IS OF BULK AT MOST 1048576: true; the input reads as it did. -/
def fnExactDensityOfUptoRow : OpenClaim := { program := "ytdphlhplcmjepaa", sum := "d5d9a117598be8cbe8ce14e5cd816bc86d1e964b4fbc4286ee81a2e0f5bfb332", func := "loop.example/g01149/laws.FnExactDensityOf", spec := "fnExactDensityOf", plainKeys := false, apart := false, narrowed := true }
def FnExactDensityOfUptoSaid : Prop := fnExactDensityOfUptoRow.holds Try.pinned (OpenSpec.upto fnExactDensityOfSpec)

/-- 'laws.FnExactMustBeAbove', WHERE WHAT IT READS IS OF BULK AT MOST 1048576: true; the input reads as it did. -/
def fnExactMustBeAboveUptoRow : OpenClaim := { program := "ytdphlhplcmjepaa", sum := "d5d9a117598be8cbe8ce14e5cd816bc86d1e964b4fbc4286ee81a2e0f5bfb332", func := "loop.example/g01149/laws.FnExactMustBeAbove", spec := "fnExactMustBeAbove", plainKeys := false, apart := false, narrowed := true }
def FnExactMustBeAboveUptoSaid : Prop := fnExactMustBeAboveUptoRow.holds Try.pinned (OpenSpec.upto fnExactMustBeAboveSpec)

/-- 'laws.FnExactPiecesOf', WHERE WHAT IT READS IS OF BULK AT MOST 1048576: true; the input reads as it did. -/
def fnExactPiecesOfUptoRow : OpenClaim := { program := "ytdphlhplcmjepaa", sum := "d5d9a117598be8cbe8ce14e5cd816bc86d1e964b4fbc4286ee81a2e0f5bfb332", func := "loop.example/g01149/laws.FnExactPiecesOf", spec := "fnExactPiecesOf", plainKeys := false, apart := false, narrowed := true }
def FnExactPiecesOfUptoSaid : Prop := fnExactPiecesOfUptoRow.holds Try.pinned (OpenSpec.upto fnExactPiecesOfSpec)

/-- 'laws.FnExactCycleOf', WHERE WHAT IT READS IS OF BULK AT MOST 1048576: true; the input reads as it did. -/
def fnExactCycleOfUptoRow : OpenClaim := { program := "ytdphlhplcmjepaa", sum := "d5d9a117598be8cbe8ce14e5cd816bc86d1e964b4fbc4286ee81a2e0f5bfb332", func := "loop.example/g01149/laws.FnExactCycleOf", spec := "fnExactCycleOf", unfollowed := true, recurses := true, plainKeys := false, apart := false, narrowed := true }
def FnExactCycleOfUptoSaid : Prop := fnExactCycleOfUptoRow.holds Try.pinned (OpenSpec.upto fnExactCycleOfSpec)

/-- 'laws.FnExactLongestChain', WHERE WHAT IT READS IS OF BULK AT MOST 1048576: true; the input reads as it did. -/
def fnExactLongestChainUptoRow : OpenClaim := { program := "ytdphlhplcmjepaa", sum := "d5d9a117598be8cbe8ce14e5cd816bc86d1e964b4fbc4286ee81a2e0f5bfb332", func := "loop.example/g01149/laws.FnExactLongestChain", spec := "fnExactLongestChain", recurses := true, plainKeys := false, apart := false, narrowed := true }
def FnExactLongestChainUptoSaid : Prop := fnExactLongestChainUptoRow.holds Try.pinned (OpenSpec.upto fnExactLongestChainSpec)

/-- 'laws.FnExactIsRouting', WHERE WHAT IT READS IS OF BULK AT MOST 1048576: true; the input reads as it did. -/
def fnExactIsRoutingUptoRow : OpenClaim := { program := "ytdphlhplcmjepaa", sum := "d5d9a117598be8cbe8ce14e5cd816bc86d1e964b4fbc4286ee81a2e0f5bfb332", func := "loop.example/g01149/laws.FnExactIsRouting", spec := "fnExactIsRouting", plainKeys := false, apart := false, narrowed := true }
def FnExactIsRoutingUptoSaid : Prop := fnExactIsRoutingUptoRow.holds Try.pinned (OpenSpec.upto fnExactIsRoutingSpec)

/-- 'laws.FnExactIsPieceRouting', WHERE WHAT IT READS IS OF BULK AT MOST 1048576: true; the input reads as it did. -/
def fnExactIsPieceRoutingUptoRow : OpenClaim := { program := "ytdphlhplcmjepaa", sum := "d5d9a117598be8cbe8ce14e5cd816bc86d1e964b4fbc4286ee81a2e0f5bfb332", func := "loop.example/g01149/laws.FnExactIsPieceRouting", spec := "fnExactIsPieceRouting", plainKeys := false, apart := false, narrowed := true }
def FnExactIsPieceRoutingUptoSaid : Prop := fnExactIsPieceRoutingUptoRow.holds Try.pinned (OpenSpec.upto fnExactIsPieceRoutingSpec)

end Rows
end Go.Proofs.Ytdphlhplcmjepaa
