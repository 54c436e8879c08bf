/-
  No cell of these rows narrows 'for every input' (looked for: loops, veiled, ifaces, maps, wideKeys, modest, calm, conditions, laid).
  DERIVED. THE GIVEN ROWS OF THIS SEAT. 3 by the template 'for every input the law returns true; each argument reads behind the call as it read before'; 0 by the template 'total and deterministic' (their statements: YtlfhhgfhoddgpaaTotals.lean).
  GIVEN WITH THE SEED: the statements are not yours to turn. If you find one false, say at which input.
  Laid BY PROGRAM, IN A SANDBOX (cutbox-rows.mjs): the forced cells as the released guide's own fill.sh prints them over the translation d61fee0b817ad8ba… (all of the seat's roots in one cut). By AI agents, Wed Nov 11 2026. No macro, syntax, notation, axiom, sorry.
-/
import Derived.Test.YtlfhhgfhoddgpaaChecked
import GoSem.Claim
import GoSem.ClaimJoined
import GoSem.ClaimMapViews
import Derived.JoinedTies
import Derived.KernelRfl
namespace Go.Proofs.Ytlfhhgfhoddgpaa
/- THE CELL 'sum', in the pinned program and in every row, IS THE sha256 OF THE DUMP (.gsa) THAT YtlfhhgfhoddgpaaProg.lean LOADS. Nothing in Lean hashes anything: it is a label: what it is worth is what the hold of that sum in a sandbox is worth. -/
noncomputable def Try.pinned : Pinned := { name := "ytlfhhgfhoddgpaa", sum := "d61fee0b817ad8badc292dd2e78fb167b289b1106950633bf5d1038759b4aec0", checked := Try.checked }
namespace Rows
def none {H : Type} : Left H := { results := [], args := [] }

/-- 'laws.FnCrowded': WHATEVER THE INPUT: true; the input reads as it did. -/
def fnCrowdedSpec : ChangeSpec := { name := "fnCrowded", fn := fun _ => fun
  | [d1, d2] => { results := [.lit (.bool true)], args := [d1, d2] }
  | _ => none }
def fnCrowdedRow : OpenClaim := { program := "ytlfhhgfhoddgpaa", sum := "d61fee0b817ad8badc292dd2e78fb167b289b1106950633bf5d1038759b4aec0", func := "loop.example/g01149/laws.FnCrowded", spec := "fnCrowded", inPlace := ["internal/bytealg.IndexByteString"], unfollowed := true, recurses := true, plainKeys := false, apart := false }
def FnCrowdedSaid : Prop := fnCrowdedRow.holds Try.pinned (OpenSpec.ofChange fnCrowdedSpec)

/-- ITS FALSE NEIGHBOUR: 'it returns false'. Refute it at one input. -/
def fnCrowdedWrong : ChangeSpec := { name := "fnCrowded", fn := fun _ => fun
  | [d1, d2] => { results := [.lit (.bool false)], args := [d1, d2] }
  | _ => none }
def FnCrowdedWrongFalsely : Prop := fnCrowdedRow.holds Try.pinned (OpenSpec.ofChange fnCrowdedWrong)

/-- 'laws.FnWays': WHATEVER THE INPUT: true; the input reads as it did. -/
def fnWaysSpec : ChangeSpec := { name := "fnWays", fn := fun _ => fun
  | [d1, d2] => { results := [.lit (.bool true)], args := [d1, d2] }
  | _ => none }
def fnWaysRow : OpenClaim := { program := "ytlfhhgfhoddgpaa", sum := "d61fee0b817ad8badc292dd2e78fb167b289b1106950633bf5d1038759b4aec0", func := "loop.example/g01149/laws.FnWays", spec := "fnWays", inPlace := ["internal/bytealg.IndexByteString"], unfollowed := true, recurses := true, plainKeys := false, apart := false }
def FnWaysSaid : Prop := fnWaysRow.holds Try.pinned (OpenSpec.ofChange fnWaysSpec)

/-- ITS FALSE NEIGHBOUR: 'it returns false'. Refute it at one input. -/
def fnWaysWrong : ChangeSpec := { name := "fnWays", fn := fun _ => fun
  | [d1, d2] => { results := [.lit (.bool false)], args := [d1, d2] }
  | _ => none }
def FnWaysWrongFalsely : Prop := fnWaysRow.holds Try.pinned (OpenSpec.ofChange fnWaysWrong)

/-- 'laws.FnCountedWays': WHATEVER THE INPUT: true; the input reads as it did. -/
def fnCountedWaysSpec : ChangeSpec := { name := "fnCountedWays", fn := fun _ => fun
  | [d1, d2] => { results := [.lit (.bool true)], args := [d1, d2] }
  | _ => none }
def fnCountedWaysRow : OpenClaim := { program := "ytlfhhgfhoddgpaa", sum := "d61fee0b817ad8badc292dd2e78fb167b289b1106950633bf5d1038759b4aec0", func := "loop.example/g01149/laws.FnCountedWays", spec := "fnCountedWays", inPlace := ["internal/bytealg.IndexByteString"], unfollowed := true, recurses := true, plainKeys := false, apart := false }
def FnCountedWaysSaid : Prop := fnCountedWaysRow.holds Try.pinned (OpenSpec.ofChange fnCountedWaysSpec)

/-- ITS FALSE NEIGHBOUR: 'it returns false'. Refute it at one input. -/
def fnCountedWaysWrong : ChangeSpec := { name := "fnCountedWays", fn := fun _ => fun
  | [d1, d2] => { results := [.lit (.bool false)], args := [d1, d2] }
  | _ => none }
def FnCountedWaysWrongFalsely : Prop := fnCountedWaysRow.holds Try.pinned (OpenSpec.ofChange fnCountedWaysWrong)

/- THE SECOND FORM. 'bulk': how many values and letters a reading holds, each counted each time it is reached (what is shared counts as often as it is met; a slice's spare places count too). A statement '..UptoSaid' is the law's where the arguments, and the package variables that the reading takes, are together of bulk at most 1048576: NARROWER than '..Said'. Prove '..Said' where nothing that the law and all that it calls make is longer than what came in: it says more and counts as full. Else prove '..UptoSaid'. A law counts once. -/
mutual
def uptoBulk {H : Type} : DataW H → Nat
  | .lit (.string bytes) => bytes.length + 1
  | .lit _ => 1
  | .nil => 1
  | .ptr d => uptoBulk d + 1
  | .slice elems spare => uptoBulkAll elems + uptoBulkAll spare + 1
  | .agg parts => uptoBulkAll parts + 1
  | .iface _ d => uptoBulk d + 1
  | .map entries => uptoBulkEntries entries + 1
  | .held _ => 1
def uptoBulkAll {H : Type} : List (DataW H) → Nat
  | [] => 0
  | d :: r => uptoBulk d + uptoBulkAll r
def uptoBulkEntries {H : Type} : List (Lit × DataW H) → Nat
  | [] => 0
  | x :: r => uptoBulkEntry x + uptoBulkEntries r
def uptoBulkEntry {H : Type} : Lit × DataW H → Nat
  | (.string bytes, d) => bytes.length + uptoBulk d + 1
  | (_, d) => uptoBulk d + 1
 end
def uptoSmall : (H : Type) → List (DataW H) → Bool := fun _ ds => decide (uptoBulkAll ds ≤ 1048576)
def OpenSpec.upto (s : _root_.Go.ChangeSpec) : _root_.Go.OpenSpec := { _root_.Go.OpenSpec.ofChange s with cond := some uptoSmall }

/-- 'laws.FnCrowded', WHERE WHAT IT READS IS OF BULK AT MOST 1048576: true; the input reads as it did. -/
def fnCrowdedUptoRow : OpenClaim := { program := "ytlfhhgfhoddgpaa", sum := "d61fee0b817ad8badc292dd2e78fb167b289b1106950633bf5d1038759b4aec0", func := "loop.example/g01149/laws.FnCrowded", spec := "fnCrowded", inPlace := ["internal/bytealg.IndexByteString"], unfollowed := true, recurses := true, plainKeys := false, apart := false, narrowed := true }
def FnCrowdedUptoSaid : Prop := fnCrowdedUptoRow.holds Try.pinned (OpenSpec.upto fnCrowdedSpec)

/-- 'laws.FnWays', WHERE WHAT IT READS IS OF BULK AT MOST 1048576: true; the input reads as it did. -/
def fnWaysUptoRow : OpenClaim := { program := "ytlfhhgfhoddgpaa", sum := "d61fee0b817ad8badc292dd2e78fb167b289b1106950633bf5d1038759b4aec0", func := "loop.example/g01149/laws.FnWays", spec := "fnWays", inPlace := ["internal/bytealg.IndexByteString"], unfollowed := true, recurses := true, plainKeys := false, apart := false, narrowed := true }
def FnWaysUptoSaid : Prop := fnWaysUptoRow.holds Try.pinned (OpenSpec.upto fnWaysSpec)

/-- 'laws.FnCountedWays', WHERE WHAT IT READS IS OF BULK AT MOST 1048576: true; the input reads as it did. -/
def fnCountedWaysUptoRow : OpenClaim := { program := "ytlfhhgfhoddgpaa", sum := "d61fee0b817ad8badc292dd2e78fb167b289b1106950633bf5d1038759b4aec0", func := "loop.example/g01149/laws.FnCountedWays", spec := "fnCountedWays", inPlace := ["internal/bytealg.IndexByteString"], unfollowed := true, recurses := true, plainKeys := false, apart := false, narrowed := true }
def FnCountedWaysUptoSaid : Prop := fnCountedWaysUptoRow.holds Try.pinned (OpenSpec.upto fnCountedWaysSpec)

end Rows
end Go.Proofs.Ytlfhhgfhoddgpaa
