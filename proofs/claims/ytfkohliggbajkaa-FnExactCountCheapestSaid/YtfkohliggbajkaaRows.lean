/-
  No cell of these rows narrows 'for every input' (looked for: loops, veiled, ifaces, maps, wideKeys, modest, calm, conditions, laid).
  DERIVED. THE GIVEN ROWS OF THIS SEAT. 4 by the template 'for every input the law returns true; each argument reads behind the call as it read before'; 0 by the template 'total and deterministic' (their statements: YtfkohliggbajkaaTotals.lean).
  GIVEN WITH THE SEED: the statements are not yours to turn. If you find one false, say at which input.
  Laid BY PROGRAM, IN A SANDBOX (cutbox-rows.mjs): the forced cells as the released guide's own fill.sh prints them over the translation cfb7f1f7e49282ef… (all of the seat's roots in one cut). By AI agents, Wed Nov 11 2026. No macro, syntax, notation, axiom, sorry.
-/
import Derived.Test.YtfkohliggbajkaaChecked
import GoSem.Claim
import GoSem.ClaimJoined
import GoSem.ClaimMapViews
import Derived.JoinedTies
import Derived.KernelRfl
namespace Go.Proofs.Ytfkohliggbajkaa
/- THE CELL 'sum', in the pinned program and in every row, IS THE sha256 OF THE DUMP (.gsa) THAT YtfkohliggbajkaaProg.lean LOADS. Nothing in Lean hashes anything: it is a label: what it is worth is what the hold of that sum in a sandbox is worth. -/
noncomputable def Try.pinned : Pinned := { name := "ytfkohliggbajkaa", sum := "cfb7f1f7e49282ef93eabc26aea53b5a7b4bea3270ef1250ce5fbb87bfd676d8", checked := Try.checked }
namespace Rows
def none {H : Type} : Left H := { results := [], args := [] }

/-- 'laws.FnExactReachedCells': WHATEVER THE INPUT: true; the input reads as it did. -/
def fnExactReachedCellsSpec : ChangeSpec := { name := "fnExactReachedCells", fn := fun _ => fun
  | [d1, d2] => { results := [.lit (.bool true)], args := [d1, d2] }
  | _ => none }
def fnExactReachedCellsRow : OpenClaim := { program := "ytfkohliggbajkaa", sum := "cfb7f1f7e49282ef93eabc26aea53b5a7b4bea3270ef1250ce5fbb87bfd676d8", func := "loop.example/g01149/laws.FnExactReachedCells", spec := "fnExactReachedCells", unfollowed := true, recurses := true, plainKeys := false, apart := false }
def FnExactReachedCellsSaid : Prop := fnExactReachedCellsRow.holds Try.pinned (OpenSpec.ofChange fnExactReachedCellsSpec)

/-- ITS FALSE NEIGHBOUR: 'it returns false'. Refute it at one input. -/
def fnExactReachedCellsWrong : ChangeSpec := { name := "fnExactReachedCells", fn := fun _ => fun
  | [d1, d2] => { results := [.lit (.bool false)], args := [d1, d2] }
  | _ => none }
def FnExactReachedCellsWrongFalsely : Prop := fnExactReachedCellsRow.holds Try.pinned (OpenSpec.ofChange fnExactReachedCellsWrong)

/-- 'laws.FnExactWallAround': WHATEVER THE INPUT: true; the input reads as it did. -/
def fnExactWallAroundSpec : ChangeSpec := { name := "fnExactWallAround", fn := fun _ => fun
  | [d1, d2] => { results := [.lit (.bool true)], args := [d1, d2] }
  | _ => none }
def fnExactWallAroundRow : OpenClaim := { program := "ytfkohliggbajkaa", sum := "cfb7f1f7e49282ef93eabc26aea53b5a7b4bea3270ef1250ce5fbb87bfd676d8", func := "loop.example/g01149/laws.FnExactWallAround", spec := "fnExactWallAround", unfollowed := true, recurses := true, plainKeys := false, apart := false }
def FnExactWallAroundSaid : Prop := fnExactWallAroundRow.holds Try.pinned (OpenSpec.ofChange fnExactWallAroundSpec)

/-- ITS FALSE NEIGHBOUR: 'it returns false'. Refute it at one input. -/
def fnExactWallAroundWrong : ChangeSpec := { name := "fnExactWallAround", fn := fun _ => fun
  | [d1, d2] => { results := [.lit (.bool false)], args := [d1, d2] }
  | _ => none }
def FnExactWallAroundWrongFalsely : Prop := fnExactWallAroundRow.holds Try.pinned (OpenSpec.ofChange fnExactWallAroundWrong)

/-- 'laws.FnExactCheapestWay': WHATEVER THE INPUT: true; the input reads as it did. -/
def fnExactCheapestWaySpec : ChangeSpec := { name := "fnExactCheapestWay", fn := fun _ => fun
  | [d1, d2, d3, d4] => { results := [.lit (.bool true)], args := [d1, d2, d3, d4] }
  | _ => none }
def fnExactCheapestWayRow : OpenClaim := { program := "ytfkohliggbajkaa", sum := "cfb7f1f7e49282ef93eabc26aea53b5a7b4bea3270ef1250ce5fbb87bfd676d8", func := "loop.example/g01149/laws.FnExactCheapestWay", spec := "fnExactCheapestWay", unfollowed := true, recurses := true, plainKeys := false, apart := false }
def FnExactCheapestWaySaid : Prop := fnExactCheapestWayRow.holds Try.pinned (OpenSpec.ofChange fnExactCheapestWaySpec)

/-- ITS FALSE NEIGHBOUR: 'it returns false'. Refute it at one input. -/
def fnExactCheapestWayWrong : ChangeSpec := { name := "fnExactCheapestWay", fn := fun _ => fun
  | [d1, d2, d3, d4] => { results := [.lit (.bool false)], args := [d1, d2, d3, d4] }
  | _ => none }
def FnExactCheapestWayWrongFalsely : Prop := fnExactCheapestWayRow.holds Try.pinned (OpenSpec.ofChange fnExactCheapestWayWrong)

/-- 'laws.FnExactCountCheapest': WHATEVER THE INPUT: true; the input reads as it did. -/
def fnExactCountCheapestSpec : ChangeSpec := { name := "fnExactCountCheapest", fn := fun _ => fun
  | [d1, d2, d3, d4] => { results := [.lit (.bool true)], args := [d1, d2, d3, d4] }
  | _ => none }
def fnExactCountCheapestRow : OpenClaim := { program := "ytfkohliggbajkaa", sum := "cfb7f1f7e49282ef93eabc26aea53b5a7b4bea3270ef1250ce5fbb87bfd676d8", func := "loop.example/g01149/laws.FnExactCountCheapest", spec := "fnExactCountCheapest", unfollowed := true, recurses := true, plainKeys := false, apart := false }
def FnExactCountCheapestSaid : Prop := fnExactCountCheapestRow.holds Try.pinned (OpenSpec.ofChange fnExactCountCheapestSpec)

/-- ITS FALSE NEIGHBOUR: 'it returns false'. Refute it at one input. -/
def fnExactCountCheapestWrong : ChangeSpec := { name := "fnExactCountCheapest", fn := fun _ => fun
  | [d1, d2, d3, d4] => { results := [.lit (.bool false)], args := [d1, d2, d3, d4] }
  | _ => none }
def FnExactCountCheapestWrongFalsely : Prop := fnExactCountCheapestRow.holds Try.pinned (OpenSpec.ofChange fnExactCountCheapestWrong)

/- THE SECOND FORM. 'bulk': how many values and letters a reading holds, each counted each time it is reached (what is shared counts as often as it is met; a slice's spare places count too). A statement '..UptoSaid' is the law's where the arguments, and the package variables that the reading takes, are together of bulk at most 1048576: NARROWER than '..Said'. Prove '..Said' where nothing that the law and all that it calls make is longer than what came in: it says more and counts as full. Else prove '..UptoSaid'. A law counts once. -/
mutual
def uptoBulk {H : Type} : DataW H → Nat
  | .lit (.string bytes) => bytes.length + 1
  | .lit _ => 1
  | .nil => 1
  | .ptr d => uptoBulk d + 1
  | .slice elems spare => uptoBulkAll elems + uptoBulkAll spare + 1
  | .agg parts => uptoBulkAll parts + 1
  | .iface _ d => uptoBulk d + 1
  | .map entries => uptoBulkEntries entries + 1
  | .held _ => 1
def uptoBulkAll {H : Type} : List (DataW H) → Nat
  | [] => 0
  | d :: r => uptoBulk d + uptoBulkAll r
def uptoBulkEntries {H : Type} : List (Lit × DataW H) → Nat
  | [] => 0
  | x :: r => uptoBulkEntry x + uptoBulkEntries r
def uptoBulkEntry {H : Type} : Lit × DataW H → Nat
  | (.string bytes, d) => bytes.length + uptoBulk d + 1
  | (_, d) => uptoBulk d + 1
 end
def uptoSmall : (H : Type) → List (DataW H) → Bool := fun _ ds => decide (uptoBulkAll ds ≤ 1048576)
def OpenSpec.upto (s : _root_.Go.ChangeSpec) : _root_.Go.OpenSpec := { _root_.Go.OpenSpec.ofChange s with cond := some uptoSmall }

/-- 'laws.FnExactReachedCells', WHERE WHAT IT READS IS OF BULK AT MOST 1048576: true; the input reads as it did. -/
def fnExactReachedCellsUptoRow : OpenClaim := { program := "ytfkohliggbajkaa", sum := "cfb7f1f7e49282ef93eabc26aea53b5a7b4bea3270ef1250ce5fbb87bfd676d8", func := "loop.example/g01149/laws.FnExactReachedCells", spec := "fnExactReachedCells", unfollowed := true, recurses := true, plainKeys := false, apart := false, narrowed := true }
def FnExactReachedCellsUptoSaid : Prop := fnExactReachedCellsUptoRow.holds Try.pinned (OpenSpec.upto fnExactReachedCellsSpec)

/-- 'laws.FnExactWallAround', WHERE WHAT IT READS IS OF BULK AT MOST 1048576: true; the input reads as it did. -/
def fnExactWallAroundUptoRow : OpenClaim := { program := "ytfkohliggbajkaa", sum := "cfb7f1f7e49282ef93eabc26aea53b5a7b4bea3270ef1250ce5fbb87bfd676d8", func := "loop.example/g01149/laws.FnExactWallAround", spec := "fnExactWallAround", unfollowed := true, recurses := true, plainKeys := false, apart := false, narrowed := true }
def FnExactWallAroundUptoSaid : Prop := fnExactWallAroundUptoRow.holds Try.pinned (OpenSpec.upto fnExactWallAroundSpec)

/-- 'laws.FnExactCheapestWay', WHERE WHAT IT READS IS OF BULK AT MOST 1048576: true; the input reads as it did. -/
def fnExactCheapestWayUptoRow : OpenClaim := { program := "ytfkohliggbajkaa", sum := "cfb7f1f7e49282ef93eabc26aea53b5a7b4bea3270ef1250ce5fbb87bfd676d8", func := "loop.example/g01149/laws.FnExactCheapestWay", spec := "fnExactCheapestWay", unfollowed := true, recurses := true, plainKeys := false, apart := false, narrowed := true }
def FnExactCheapestWayUptoSaid : Prop := fnExactCheapestWayUptoRow.holds Try.pinned (OpenSpec.upto fnExactCheapestWaySpec)

/-- 'laws.FnExactCountCheapest', WHERE WHAT IT READS IS OF BULK AT MOST 1048576: true; the input reads as it did. -/
def fnExactCountCheapestUptoRow : OpenClaim := { program := "ytfkohliggbajkaa", sum := "cfb7f1f7e49282ef93eabc26aea53b5a7b4bea3270ef1250ce5fbb87bfd676d8", func := "loop.example/g01149/laws.FnExactCountCheapest", spec := "fnExactCountCheapest", unfollowed := true, recurses := true, plainKeys := false, apart := false, narrowed := true }
def FnExactCountCheapestUptoSaid : Prop := fnExactCountCheapestUptoRow.holds Try.pinned (OpenSpec.upto fnExactCountCheapestSpec)

end Rows
end Go.Proofs.Ytfkohliggbajkaa
