/-
  NARROWER THAN 'FOR EVERY INPUT', by the rows' own cells (each row's printed sentence says how): FnExactDecimal: laid · FnExactReadDecimal: laid · FnExactListText: laid · FnExactPointsText: laid · FnExactReadList: laid · FnExactReadPoints: laid · FnExactMazeText: laid · FnExactReadMaze: laid · FnExactChannelText: laid · FnExactReadChannel: laid.
  DERIVED. THE GIVEN ROWS OF THIS SEAT. 10 by the template 'for every input the law returns true; each argument reads behind the call as it read before'; 0 by the template 'total and deterministic' (their statements: YtlgagjboijkpgaaDoorTotals.lean).
  GIVEN WITH THE SEED: the statements are not yours to turn. If you find one false, say at which input.
  Laid BY PROGRAM, IN A SANDBOX (cutbox-rows.mjs): the forced cells as the released guide's own fill.sh prints them over the translation ed489e2a7bd5a2e2… (all of the seat's roots in one cut). By AI agents, Wed Nov 11 2026. No macro, syntax, notation, axiom, sorry.
-/
import Derived.Test.YtlgagjboijkpgaaDoorChecked
import GoSem.PinnedTables
import GoSem.Claim
import GoSem.ClaimJoined
import GoSem.ClaimMapViews
import Derived.JoinedTies
import Derived.KernelRfl
namespace Go.Proofs.YtlgagjboijkpgaaDoor
/- THE CELL 'sum', in the pinned program and in every row, IS THE sha256 OF THE DUMP (.gsa) THAT YtlgagjboijkpgaaDoorProg.lean LOADS. Nothing in Lean hashes anything: it is a label: what it is worth is what the hold of that sum in a sandbox is worth. -/
noncomputable def Tryd.pinned : Pinned := { name := "ytlgagjboijkpgaadoor", sum := "ed489e2a7bd5a2e2fa4c8860a0a32e2031b48a78dcf3aa9273a348c123b10fce", checked := Tryd.checked }
namespace Rows
def none {H : Type} : Left H := { results := [], args := [] }

/- WHAT THE LISTED PACKAGE-LEVEL VARIABLES READ AS WHEN THE CALL BEGINS. Each datum BY PROGRAM (the guide's laid-datum.mjs) off the statement by which the dump's own 'gosem.cut.vars' lays the variable. In a bare row this is a premise. The card (YtlgagjboijkpgaaDoorCards.lean) ties it to the program's text. -/
def laid_math_bits_deBruijn32tab {H : Type} : DataW H := .agg [.lit (.int .u8 0), .lit (.int .u8 1), .lit (.int .u8 28), .lit (.int .u8 2), .lit (.int .u8 29), .lit (.int .u8 14), .lit (.int .u8 24), .lit (.int .u8 3), .lit (.int .u8 30), .lit (.int .u8 22), .lit (.int .u8 20), .lit (.int .u8 15), .lit (.int .u8 25), .lit (.int .u8 17), .lit (.int .u8 4), .lit (.int .u8 8), .lit (.int .u8 31), .lit (.int .u8 27), .lit (.int .u8 13), .lit (.int .u8 23), .lit (.int .u8 21), .lit (.int .u8 19), .lit (.int .u8 16), .lit (.int .u8 7), .lit (.int .u8 26), .lit (.int .u8 12), .lit (.int .u8 18), .lit (.int .u8 6), .lit (.int .u8 11), .lit (.int .u8 5), .lit (.int .u8 10), .lit (.int .u8 9)]
def laid_math_bits_deBruijn64tab {H : Type} : DataW H := .agg [.lit (.int .u8 0), .lit (.int .u8 1), .lit (.int .u8 56), .lit (.int .u8 2), .lit (.int .u8 57), .lit (.int .u8 49), .lit (.int .u8 28), .lit (.int .u8 3), .lit (.int .u8 61), .lit (.int .u8 58), .lit (.int .u8 42), .lit (.int .u8 50), .lit (.int .u8 38), .lit (.int .u8 29), .lit (.int .u8 17), .lit (.int .u8 4), .lit (.int .u8 62), .lit (.int .u8 47), .lit (.int .u8 59), .lit (.int .u8 36), .lit (.int .u8 45), .lit (.int .u8 43), .lit (.int .u8 51), .lit (.int .u8 22), .lit (.int .u8 53), .lit (.int .u8 39), .lit (.int .u8 33), .lit (.int .u8 30), .lit (.int .u8 24), .lit (.int .u8 18), .lit (.int .u8 12), .lit (.int .u8 5), .lit (.int .u8 63), .lit (.int .u8 55), .lit (.int .u8 48), .lit (.int .u8 27), .lit (.int .u8 60), .lit (.int .u8 41), .lit (.int .u8 37), .lit (.int .u8 16), .lit (.int .u8 46), .lit (.int .u8 35), .lit (.int .u8 44), .lit (.int .u8 21), .lit (.int .u8 52), .lit (.int .u8 32), .lit (.int .u8 23), .lit (.int .u8 11), .lit (.int .u8 54), .lit (.int .u8 26), .lit (.int .u8 40), .lit (.int .u8 15), .lit (.int .u8 34), .lit (.int .u8 20), .lit (.int .u8 31), .lit (.int .u8 10), .lit (.int .u8 25), .lit (.int .u8 14), .lit (.int .u8 19), .lit (.int .u8 9), .lit (.int .u8 13), .lit (.int .u8 8), .lit (.int .u8 7), .lit (.int .u8 6)]
def laid_internal_strconv_uint64pow10 {H : Type} : DataW H := .agg [.lit (.int .u64 1), .lit (.int .u64 10), .lit (.int .u64 100), .lit (.int .u64 1000), .lit (.int .u64 10000), .lit (.int .u64 100000), .lit (.int .u64 1000000), .lit (.int .u64 10000000), .lit (.int .u64 100000000), .lit (.int .u64 1000000000), .lit (.int .u64 10000000000), .lit (.int .u64 100000000000), .lit (.int .u64 1000000000000), .lit (.int .u64 10000000000000), .lit (.int .u64 100000000000000), .lit (.int .u64 1000000000000000), .lit (.int .u64 10000000000000000), .lit (.int .u64 100000000000000000), .lit (.int .u64 1000000000000000000), .lit (.int .u64 10000000000000000000)]
def laid_strconv_ErrRange {H : Type} : DataW H := .iface "*errors.errorString" (.ptr (.agg [.lit (.string [118, 97, 108, 117, 101, 32, 111, 117, 116, 32, 111, 102, 32, 114, 97, 110, 103, 101])]))
def laid_strconv_ErrSyntax {H : Type} : DataW H := .iface "*errors.errorString" (.ptr (.agg [.lit (.string [105, 110, 118, 97, 108, 105, 100, 32, 115, 121, 110, 116, 97, 120])]))
def laid_unicode_utf8_acceptRanges {H : Type} : DataW H := .agg [.agg [.lit (.int .u8 128), .lit (.int .u8 191)], .agg [.lit (.int .u8 160), .lit (.int .u8 191)], .agg [.lit (.int .u8 128), .lit (.int .u8 159)], .agg [.lit (.int .u8 144), .lit (.int .u8 191)], .agg [.lit (.int .u8 128), .lit (.int .u8 143)], .agg [.lit (.int .u8 0), .lit (.int .u8 0)], .agg [.lit (.int .u8 0), .lit (.int .u8 0)], .agg [.lit (.int .u8 0), .lit (.int .u8 0)], .agg [.lit (.int .u8 0), .lit (.int .u8 0)], .agg [.lit (.int .u8 0), .lit (.int .u8 0)], .agg [.lit (.int .u8 0), .lit (.int .u8 0)], .agg [.lit (.int .u8 0), .lit (.int .u8 0)], .agg [.lit (.int .u8 0), .lit (.int .u8 0)], .agg [.lit (.int .u8 0), .lit (.int .u8 0)], .agg [.lit (.int .u8 0), .lit (.int .u8 0)], .agg [.lit (.int .u8 0), .lit (.int .u8 0)]]
/-- One of Go's own tables, pinned by name: the form's constant. -/
def laid_unicode_utf8_first : DataW Unit := Go.Pinned.utf8First

/-- 'laws.FnExactDecimal': WHATEVER THE INPUT: true; the input reads as it did. -/
def fnExactDecimalSpec : ChangeSpec := { name := "fnExactDecimal", fn := fun _ => fun
  | [d] => { results := [.lit (.bool true)], args := [d] }
  | _ => none }
def fnExactDecimalRow : OpenClaim := { program := "ytlgagjboijkpgaadoor", sum := "ed489e2a7bd5a2e2fa4c8860a0a32e2031b48a78dcf3aa9273a348c123b10fce", func := "loop.example/g01149/laws.FnExactDecimal", spec := "fnExactDecimal", named := ["internal/strconv.uint64pow10", "math/bits.deBruijn32tab", "math/bits.deBruijn64tab"], apart := false, laid := [("math/bits.deBruijn32tab", laid_math_bits_deBruijn32tab), ("math/bits.deBruijn64tab", laid_math_bits_deBruijn64tab), ("internal/strconv.uint64pow10", laid_internal_strconv_uint64pow10)] }
def FnExactDecimalSaid : Prop := fnExactDecimalRow.holds Tryd.pinned (OpenSpec.ofChange fnExactDecimalSpec)

/-- ITS FALSE NEIGHBOUR: 'it returns false'. Refute it at one input. -/
def fnExactDecimalWrong : ChangeSpec := { name := "fnExactDecimal", fn := fun _ => fun
  | [d] => { results := [.lit (.bool false)], args := [d] }
  | _ => none }
def FnExactDecimalWrongFalsely : Prop := fnExactDecimalRow.holds Tryd.pinned (OpenSpec.ofChange fnExactDecimalWrong)

/-- 'laws.FnExactReadDecimal': WHATEVER THE INPUT: true; the input reads as it did. -/
def fnExactReadDecimalSpec : ChangeSpec := { name := "fnExactReadDecimal", fn := fun _ => fun
  | [d] => { results := [.lit (.bool true)], args := [d] }
  | _ => none }
def fnExactReadDecimalRow : OpenClaim := { program := "ytlgagjboijkpgaadoor", sum := "ed489e2a7bd5a2e2fa4c8860a0a32e2031b48a78dcf3aa9273a348c123b10fce", func := "loop.example/g01149/laws.FnExactReadDecimal", spec := "fnExactReadDecimal", named := ["strconv.ErrSyntax", "strconv.ErrRange", "internal/strconv.uint64pow10", "math/bits.deBruijn32tab", "math/bits.deBruijn64tab"], apart := false, laid := [("math/bits.deBruijn32tab", laid_math_bits_deBruijn32tab), ("math/bits.deBruijn64tab", laid_math_bits_deBruijn64tab), ("internal/strconv.uint64pow10", laid_internal_strconv_uint64pow10), ("strconv.ErrRange", laid_strconv_ErrRange), ("strconv.ErrSyntax", laid_strconv_ErrSyntax)] }
def FnExactReadDecimalSaid : Prop := fnExactReadDecimalRow.holds Tryd.pinned (OpenSpec.ofChange fnExactReadDecimalSpec)

/-- ITS FALSE NEIGHBOUR: 'it returns false'. Refute it at one input. -/
def fnExactReadDecimalWrong : ChangeSpec := { name := "fnExactReadDecimal", fn := fun _ => fun
  | [d] => { results := [.lit (.bool false)], args := [d] }
  | _ => none }
def FnExactReadDecimalWrongFalsely : Prop := fnExactReadDecimalRow.holds Tryd.pinned (OpenSpec.ofChange fnExactReadDecimalWrong)

/-- 'laws.FnExactListText': WHATEVER THE INPUT: true; the input reads as it did. -/
def fnExactListTextSpec : ChangeSpec := { name := "fnExactListText", fn := fun _ => fun
  | [d] => { results := [.lit (.bool true)], args := [d] }
  | _ => none }
def fnExactListTextRow : OpenClaim := { program := "ytlgagjboijkpgaadoor", sum := "ed489e2a7bd5a2e2fa4c8860a0a32e2031b48a78dcf3aa9273a348c123b10fce", func := "loop.example/g01149/laws.FnExactListText", spec := "fnExactListText", inPlace := ["internal/abi.NoEscape", "internal/bytealg.MakeNoZero"], unfollowed := true, recurses := true, named := ["internal/strconv.uint64pow10", "math/bits.deBruijn32tab", "math/bits.deBruijn64tab"], apart := false, laid := [("math/bits.deBruijn32tab", laid_math_bits_deBruijn32tab), ("math/bits.deBruijn64tab", laid_math_bits_deBruijn64tab), ("internal/strconv.uint64pow10", laid_internal_strconv_uint64pow10)] }
def FnExactListTextSaid : Prop := fnExactListTextRow.holds Tryd.pinned (OpenSpec.ofChange fnExactListTextSpec)

/-- ITS FALSE NEIGHBOUR: 'it returns false'. Refute it at one input. -/
def fnExactListTextWrong : ChangeSpec := { name := "fnExactListText", fn := fun _ => fun
  | [d] => { results := [.lit (.bool false)], args := [d] }
  | _ => none }
def FnExactListTextWrongFalsely : Prop := fnExactListTextRow.holds Tryd.pinned (OpenSpec.ofChange fnExactListTextWrong)

/-- 'laws.FnExactPointsText': WHATEVER THE INPUT: true; the input reads as it did. -/
def fnExactPointsTextSpec : ChangeSpec := { name := "fnExactPointsText", fn := fun _ => fun
  | [d] => { results := [.lit (.bool true)], args := [d] }
  | _ => none }
def fnExactPointsTextRow : OpenClaim := { program := "ytlgagjboijkpgaadoor", sum := "ed489e2a7bd5a2e2fa4c8860a0a32e2031b48a78dcf3aa9273a348c123b10fce", func := "loop.example/g01149/laws.FnExactPointsText", spec := "fnExactPointsText", inPlace := ["internal/abi.NoEscape", "internal/bytealg.MakeNoZero"], unfollowed := true, recurses := true, named := ["internal/strconv.uint64pow10", "math/bits.deBruijn32tab", "math/bits.deBruijn64tab"], apart := false, laid := [("math/bits.deBruijn32tab", laid_math_bits_deBruijn32tab), ("math/bits.deBruijn64tab", laid_math_bits_deBruijn64tab), ("internal/strconv.uint64pow10", laid_internal_strconv_uint64pow10)] }
def FnExactPointsTextSaid : Prop := fnExactPointsTextRow.holds Tryd.pinned (OpenSpec.ofChange fnExactPointsTextSpec)

/-- ITS FALSE NEIGHBOUR: 'it returns false'. Refute it at one input. -/
def fnExactPointsTextWrong : ChangeSpec := { name := "fnExactPointsText", fn := fun _ => fun
  | [d] => { results := [.lit (.bool false)], args := [d] }
  | _ => none }
def FnExactPointsTextWrongFalsely : Prop := fnExactPointsTextRow.holds Tryd.pinned (OpenSpec.ofChange fnExactPointsTextWrong)

/-- 'laws.FnExactReadList': WHATEVER THE INPUT: true; the input reads as it did. -/
def fnExactReadListSpec : ChangeSpec := { name := "fnExactReadList", fn := fun _ => fun
  | [d] => { results := [.lit (.bool true)], args := [d] }
  | _ => none }
def fnExactReadListRow : OpenClaim := { program := "ytlgagjboijkpgaadoor", sum := "ed489e2a7bd5a2e2fa4c8860a0a32e2031b48a78dcf3aa9273a348c123b10fce", func := "loop.example/g01149/laws.FnExactReadList", spec := "fnExactReadList", inPlace := ["internal/bytealg.CountString", "internal/bytealg.IndexByteString", "internal/bytealg.IndexString"], named := ["unicode/utf8.first", "unicode/utf8.acceptRanges", "internal/bytealg.MaxLen", "strconv.ErrSyntax", "strconv.ErrRange", "internal/strconv.uint64pow10", "math/bits.deBruijn32tab", "math/bits.deBruijn64tab"], apart := false, laid := [("math/bits.deBruijn32tab", laid_math_bits_deBruijn32tab), ("math/bits.deBruijn64tab", laid_math_bits_deBruijn64tab), ("internal/strconv.uint64pow10", laid_internal_strconv_uint64pow10), ("unicode/utf8.acceptRanges", laid_unicode_utf8_acceptRanges), ("strconv.ErrRange", laid_strconv_ErrRange), ("strconv.ErrSyntax", laid_strconv_ErrSyntax), ("unicode/utf8.first", laid_unicode_utf8_first)] }
def FnExactReadListSaid : Prop := fnExactReadListRow.holds Tryd.pinned (OpenSpec.ofChange fnExactReadListSpec)

/-- ITS FALSE NEIGHBOUR: 'it returns false'. Refute it at one input. -/
def fnExactReadListWrong : ChangeSpec := { name := "fnExactReadList", fn := fun _ => fun
  | [d] => { results := [.lit (.bool false)], args := [d] }
  | _ => none }
def FnExactReadListWrongFalsely : Prop := fnExactReadListRow.holds Tryd.pinned (OpenSpec.ofChange fnExactReadListWrong)

/-- 'laws.FnExactReadPoints': WHATEVER THE INPUT: true; the input reads as it did. -/
def fnExactReadPointsSpec : ChangeSpec := { name := "fnExactReadPoints", fn := fun _ => fun
  | [d] => { results := [.lit (.bool true)], args := [d] }
  | _ => none }
def fnExactReadPointsRow : OpenClaim := { program := "ytlgagjboijkpgaadoor", sum := "ed489e2a7bd5a2e2fa4c8860a0a32e2031b48a78dcf3aa9273a348c123b10fce", func := "loop.example/g01149/laws.FnExactReadPoints", spec := "fnExactReadPoints", inPlace := ["internal/bytealg.CountString", "internal/bytealg.IndexByteString", "internal/bytealg.IndexString"], unfollowed := true, recurses := true, named := ["unicode/utf8.first", "unicode/utf8.acceptRanges", "internal/bytealg.MaxLen", "strconv.ErrSyntax", "strconv.ErrRange", "internal/strconv.uint64pow10", "math/bits.deBruijn32tab", "math/bits.deBruijn64tab"], apart := false, laid := [("math/bits.deBruijn32tab", laid_math_bits_deBruijn32tab), ("math/bits.deBruijn64tab", laid_math_bits_deBruijn64tab), ("internal/strconv.uint64pow10", laid_internal_strconv_uint64pow10), ("unicode/utf8.acceptRanges", laid_unicode_utf8_acceptRanges), ("strconv.ErrRange", laid_strconv_ErrRange), ("strconv.ErrSyntax", laid_strconv_ErrSyntax), ("unicode/utf8.first", laid_unicode_utf8_first)] }
def FnExactReadPointsSaid : Prop := fnExactReadPointsRow.holds Tryd.pinned (OpenSpec.ofChange fnExactReadPointsSpec)

/-- ITS FALSE NEIGHBOUR: 'it returns false'. Refute it at one input. -/
def fnExactReadPointsWrong : ChangeSpec := { name := "fnExactReadPoints", fn := fun _ => fun
  | [d] => { results := [.lit (.bool false)], args := [d] }
  | _ => none }
def FnExactReadPointsWrongFalsely : Prop := fnExactReadPointsRow.holds Tryd.pinned (OpenSpec.ofChange fnExactReadPointsWrong)

/-- 'laws.FnExactMazeText': WHATEVER THE INPUT: true; the input reads as it did. -/
def fnExactMazeTextSpec : ChangeSpec := { name := "fnExactMazeText", fn := fun _ => fun
  | [d] => { results := [.lit (.bool true)], args := [d] }
  | _ => none }
def fnExactMazeTextRow : OpenClaim := { program := "ytlgagjboijkpgaadoor", sum := "ed489e2a7bd5a2e2fa4c8860a0a32e2031b48a78dcf3aa9273a348c123b10fce", func := "loop.example/g01149/laws.FnExactMazeText", spec := "fnExactMazeText", inPlace := ["internal/abi.NoEscape", "internal/bytealg.MakeNoZero"], unfollowed := true, recurses := true, named := ["internal/strconv.uint64pow10", "math/bits.deBruijn32tab", "math/bits.deBruijn64tab"], apart := false, laid := [("math/bits.deBruijn32tab", laid_math_bits_deBruijn32tab), ("math/bits.deBruijn64tab", laid_math_bits_deBruijn64tab), ("internal/strconv.uint64pow10", laid_internal_strconv_uint64pow10)] }
def FnExactMazeTextSaid : Prop := fnExactMazeTextRow.holds Tryd.pinned (OpenSpec.ofChange fnExactMazeTextSpec)

/-- ITS FALSE NEIGHBOUR: 'it returns false'. Refute it at one input. -/
def fnExactMazeTextWrong : ChangeSpec := { name := "fnExactMazeText", fn := fun _ => fun
  | [d] => { results := [.lit (.bool false)], args := [d] }
  | _ => none }
def FnExactMazeTextWrongFalsely : Prop := fnExactMazeTextRow.holds Tryd.pinned (OpenSpec.ofChange fnExactMazeTextWrong)

/-- 'laws.FnExactReadMaze': WHATEVER THE INPUT: true; the input reads as it did. -/
def fnExactReadMazeSpec : ChangeSpec := { name := "fnExactReadMaze", fn := fun _ => fun
  | [d] => { results := [.lit (.bool true)], args := [d] }
  | _ => none }
def fnExactReadMazeRow : OpenClaim := { program := "ytlgagjboijkpgaadoor", sum := "ed489e2a7bd5a2e2fa4c8860a0a32e2031b48a78dcf3aa9273a348c123b10fce", func := "loop.example/g01149/laws.FnExactReadMaze", spec := "fnExactReadMaze", inPlace := ["internal/bytealg.CountString", "internal/bytealg.IndexByteString", "internal/bytealg.IndexString"], unfollowed := true, recurses := true, named := ["unicode/utf8.first", "unicode/utf8.acceptRanges", "internal/bytealg.MaxLen"], apart := false, laid := [("unicode/utf8.acceptRanges", laid_unicode_utf8_acceptRanges), ("unicode/utf8.first", laid_unicode_utf8_first)] }
def FnExactReadMazeSaid : Prop := fnExactReadMazeRow.holds Tryd.pinned (OpenSpec.ofChange fnExactReadMazeSpec)

/-- ITS FALSE NEIGHBOUR: 'it returns false'. Refute it at one input. -/
def fnExactReadMazeWrong : ChangeSpec := { name := "fnExactReadMaze", fn := fun _ => fun
  | [d] => { results := [.lit (.bool false)], args := [d] }
  | _ => none }
def FnExactReadMazeWrongFalsely : Prop := fnExactReadMazeRow.holds Tryd.pinned (OpenSpec.ofChange fnExactReadMazeWrong)

/-- 'laws.FnExactChannelText': WHATEVER THE INPUT: true; the input reads as it did. -/
def fnExactChannelTextSpec : ChangeSpec := { name := "fnExactChannelText", fn := fun _ => fun
  | [d] => { results := [.lit (.bool true)], args := [d] }
  | _ => none }
def fnExactChannelTextRow : OpenClaim := { program := "ytlgagjboijkpgaadoor", sum := "ed489e2a7bd5a2e2fa4c8860a0a32e2031b48a78dcf3aa9273a348c123b10fce", func := "loop.example/g01149/laws.FnExactChannelText", spec := "fnExactChannelText", inPlace := ["internal/abi.NoEscape", "internal/bytealg.MakeNoZero"], named := ["internal/strconv.uint64pow10", "math/bits.deBruijn32tab", "math/bits.deBruijn64tab"], apart := false, laid := [("math/bits.deBruijn32tab", laid_math_bits_deBruijn32tab), ("math/bits.deBruijn64tab", laid_math_bits_deBruijn64tab), ("internal/strconv.uint64pow10", laid_internal_strconv_uint64pow10)] }
def FnExactChannelTextSaid : Prop := fnExactChannelTextRow.holds Tryd.pinned (OpenSpec.ofChange fnExactChannelTextSpec)

/-- ITS FALSE NEIGHBOUR: 'it returns false'. Refute it at one input. -/
def fnExactChannelTextWrong : ChangeSpec := { name := "fnExactChannelText", fn := fun _ => fun
  | [d] => { results := [.lit (.bool false)], args := [d] }
  | _ => none }
def FnExactChannelTextWrongFalsely : Prop := fnExactChannelTextRow.holds Tryd.pinned (OpenSpec.ofChange fnExactChannelTextWrong)

/-- 'laws.FnExactReadChannel': WHATEVER THE INPUT: true; the input reads as it did. -/
def fnExactReadChannelSpec : ChangeSpec := { name := "fnExactReadChannel", fn := fun _ => fun
  | [d] => { results := [.lit (.bool true)], args := [d] }
  | _ => none }
def fnExactReadChannelRow : OpenClaim := { program := "ytlgagjboijkpgaadoor", sum := "ed489e2a7bd5a2e2fa4c8860a0a32e2031b48a78dcf3aa9273a348c123b10fce", func := "loop.example/g01149/laws.FnExactReadChannel", spec := "fnExactReadChannel", inPlace := ["internal/bytealg.IndexByteString", "internal/bytealg.IndexString", "internal/bytealg.CountString"], named := ["internal/bytealg.MaxLen", "unicode/utf8.first", "unicode/utf8.acceptRanges", "strconv.ErrSyntax", "strconv.ErrRange", "internal/strconv.uint64pow10", "math/bits.deBruijn32tab", "math/bits.deBruijn64tab"], apart := false, laid := [("math/bits.deBruijn32tab", laid_math_bits_deBruijn32tab), ("math/bits.deBruijn64tab", laid_math_bits_deBruijn64tab), ("internal/strconv.uint64pow10", laid_internal_strconv_uint64pow10), ("unicode/utf8.acceptRanges", laid_unicode_utf8_acceptRanges), ("strconv.ErrRange", laid_strconv_ErrRange), ("strconv.ErrSyntax", laid_strconv_ErrSyntax), ("unicode/utf8.first", laid_unicode_utf8_first)] }
def FnExactReadChannelSaid : Prop := fnExactReadChannelRow.holds Tryd.pinned (OpenSpec.ofChange fnExactReadChannelSpec)

/-- ITS FALSE NEIGHBOUR: 'it returns false'. Refute it at one input. -/
def fnExactReadChannelWrong : ChangeSpec := { name := "fnExactReadChannel", fn := fun _ => fun
  | [d] => { results := [.lit (.bool false)], args := [d] }
  | _ => none }
def FnExactReadChannelWrongFalsely : Prop := fnExactReadChannelRow.holds Tryd.pinned (OpenSpec.ofChange fnExactReadChannelWrong)

/- THE SECOND FORM. 'bulk': how many values and letters a reading holds, each counted each time it is reached (what is shared counts as often as it is met; a slice's spare places count too). A statement '..UptoSaid' is the law's where the arguments, and the package variables that the reading takes, are together of bulk at most 1048576: NARROWER than '..Said'. Prove '..Said' where nothing that the law and all that it calls make is longer than what came in: it says more and counts as full. Else prove '..UptoSaid'. A law counts once. -/
mutual
def uptoBulk {H : Type} : DataW H → Nat
  | .lit (.string bytes) => bytes.length + 1
  | .lit _ => 1
  | .nil => 1
  | .ptr d => uptoBulk d + 1
  | .slice elems spare => uptoBulkAll elems + uptoBulkAll spare + 1
  | .agg parts => uptoBulkAll parts + 1
  | .iface _ d => uptoBulk d + 1
  | .map entries => uptoBulkEntries entries + 1
  | .held _ => 1
def uptoBulkAll {H : Type} : List (DataW H) → Nat
  | [] => 0
  | d :: r => uptoBulk d + uptoBulkAll r
def uptoBulkEntries {H : Type} : List (Lit × DataW H) → Nat
  | [] => 0
  | x :: r => uptoBulkEntry x + uptoBulkEntries r
def uptoBulkEntry {H : Type} : Lit × DataW H → Nat
  | (.string bytes, d) => bytes.length + uptoBulk d + 1
  | (_, d) => uptoBulk d + 1
 end
def uptoSmall : (H : Type) → List (DataW H) → Bool := fun _ ds => decide (uptoBulkAll ds ≤ 1048576)
def OpenSpec.upto (s : _root_.Go.ChangeSpec) : _root_.Go.OpenSpec := { _root_.Go.OpenSpec.ofChange s with cond := some uptoSmall }

/-- 'laws.FnExactDecimal', WHERE WHAT IT READS IS OF BULK AT MOST 1048576: true; the input reads as it did. -/
def fnExactDecimalUptoRow : OpenClaim := { program := "ytlgagjboijkpgaadoor", sum := "ed489e2a7bd5a2e2fa4c8860a0a32e2031b48a78dcf3aa9273a348c123b10fce", func := "loop.example/g01149/laws.FnExactDecimal", spec := "fnExactDecimal", named := ["internal/strconv.uint64pow10", "math/bits.deBruijn32tab", "math/bits.deBruijn64tab"], apart := false, laid := [("math/bits.deBruijn32tab", laid_math_bits_deBruijn32tab), ("math/bits.deBruijn64tab", laid_math_bits_deBruijn64tab), ("internal/strconv.uint64pow10", laid_internal_strconv_uint64pow10)], narrowed := true }
def FnExactDecimalUptoSaid : Prop := fnExactDecimalUptoRow.holds Tryd.pinned (OpenSpec.upto fnExactDecimalSpec)

/-- 'laws.FnExactReadDecimal', WHERE WHAT IT READS IS OF BULK AT MOST 1048576: true; the input reads as it did. -/
def fnExactReadDecimalUptoRow : OpenClaim := { program := "ytlgagjboijkpgaadoor", sum := "ed489e2a7bd5a2e2fa4c8860a0a32e2031b48a78dcf3aa9273a348c123b10fce", func := "loop.example/g01149/laws.FnExactReadDecimal", spec := "fnExactReadDecimal", named := ["strconv.ErrSyntax", "strconv.ErrRange", "internal/strconv.uint64pow10", "math/bits.deBruijn32tab", "math/bits.deBruijn64tab"], apart := false, laid := [("math/bits.deBruijn32tab", laid_math_bits_deBruijn32tab), ("math/bits.deBruijn64tab", laid_math_bits_deBruijn64tab), ("internal/strconv.uint64pow10", laid_internal_strconv_uint64pow10), ("strconv.ErrRange", laid_strconv_ErrRange), ("strconv.ErrSyntax", laid_strconv_ErrSyntax)], narrowed := true }
def FnExactReadDecimalUptoSaid : Prop := fnExactReadDecimalUptoRow.holds Tryd.pinned (OpenSpec.upto fnExactReadDecimalSpec)

/-- 'laws.FnExactListText', WHERE WHAT IT READS IS OF BULK AT MOST 1048576: true; the input reads as it did. -/
def fnExactListTextUptoRow : OpenClaim := { program := "ytlgagjboijkpgaadoor", sum := "ed489e2a7bd5a2e2fa4c8860a0a32e2031b48a78dcf3aa9273a348c123b10fce", func := "loop.example/g01149/laws.FnExactListText", spec := "fnExactListText", inPlace := ["internal/abi.NoEscape", "internal/bytealg.MakeNoZero"], unfollowed := true, recurses := true, named := ["internal/strconv.uint64pow10", "math/bits.deBruijn32tab", "math/bits.deBruijn64tab"], apart := false, laid := [("math/bits.deBruijn32tab", laid_math_bits_deBruijn32tab), ("math/bits.deBruijn64tab", laid_math_bits_deBruijn64tab), ("internal/strconv.uint64pow10", laid_internal_strconv_uint64pow10)], narrowed := true }
def FnExactListTextUptoSaid : Prop := fnExactListTextUptoRow.holds Tryd.pinned (OpenSpec.upto fnExactListTextSpec)

/-- 'laws.FnExactPointsText', WHERE WHAT IT READS IS OF BULK AT MOST 1048576: true; the input reads as it did. -/
def fnExactPointsTextUptoRow : OpenClaim := { program := "ytlgagjboijkpgaadoor", sum := "ed489e2a7bd5a2e2fa4c8860a0a32e2031b48a78dcf3aa9273a348c123b10fce", func := "loop.example/g01149/laws.FnExactPointsText", spec := "fnExactPointsText", inPlace := ["internal/abi.NoEscape", "internal/bytealg.MakeNoZero"], unfollowed := true, recurses := true, named := ["internal/strconv.uint64pow10", "math/bits.deBruijn32tab", "math/bits.deBruijn64tab"], apart := false, laid := [("math/bits.deBruijn32tab", laid_math_bits_deBruijn32tab), ("math/bits.deBruijn64tab", laid_math_bits_deBruijn64tab), ("internal/strconv.uint64pow10", laid_internal_strconv_uint64pow10)], narrowed := true }
def FnExactPointsTextUptoSaid : Prop := fnExactPointsTextUptoRow.holds Tryd.pinned (OpenSpec.upto fnExactPointsTextSpec)

/-- 'laws.FnExactReadList', WHERE WHAT IT READS IS OF BULK AT MOST 1048576: true; the input reads as it did. -/
def fnExactReadListUptoRow : OpenClaim := { program := "ytlgagjboijkpgaadoor", sum := "ed489e2a7bd5a2e2fa4c8860a0a32e2031b48a78dcf3aa9273a348c123b10fce", func := "loop.example/g01149/laws.FnExactReadList", spec := "fnExactReadList", inPlace := ["internal/bytealg.CountString", "internal/bytealg.IndexByteString", "internal/bytealg.IndexString"], named := ["unicode/utf8.first", "unicode/utf8.acceptRanges", "internal/bytealg.MaxLen", "strconv.ErrSyntax", "strconv.ErrRange", "internal/strconv.uint64pow10", "math/bits.deBruijn32tab", "math/bits.deBruijn64tab"], apart := false, laid := [("math/bits.deBruijn32tab", laid_math_bits_deBruijn32tab), ("math/bits.deBruijn64tab", laid_math_bits_deBruijn64tab), ("internal/strconv.uint64pow10", laid_internal_strconv_uint64pow10), ("unicode/utf8.acceptRanges", laid_unicode_utf8_acceptRanges), ("strconv.ErrRange", laid_strconv_ErrRange), ("strconv.ErrSyntax", laid_strconv_ErrSyntax), ("unicode/utf8.first", laid_unicode_utf8_first)], narrowed := true }
def FnExactReadListUptoSaid : Prop := fnExactReadListUptoRow.holds Tryd.pinned (OpenSpec.upto fnExactReadListSpec)

/-- 'laws.FnExactReadPoints', WHERE WHAT IT READS IS OF BULK AT MOST 1048576: true; the input reads as it did. -/
def fnExactReadPointsUptoRow : OpenClaim := { program := "ytlgagjboijkpgaadoor", sum := "ed489e2a7bd5a2e2fa4c8860a0a32e2031b48a78dcf3aa9273a348c123b10fce", func := "loop.example/g01149/laws.FnExactReadPoints", spec := "fnExactReadPoints", inPlace := ["internal/bytealg.CountString", "internal/bytealg.IndexByteString", "internal/bytealg.IndexString"], unfollowed := true, recurses := true, named := ["unicode/utf8.first", "unicode/utf8.acceptRanges", "internal/bytealg.MaxLen", "strconv.ErrSyntax", "strconv.ErrRange", "internal/strconv.uint64pow10", "math/bits.deBruijn32tab", "math/bits.deBruijn64tab"], apart := false, laid := [("math/bits.deBruijn32tab", laid_math_bits_deBruijn32tab), ("math/bits.deBruijn64tab", laid_math_bits_deBruijn64tab), ("internal/strconv.uint64pow10", laid_internal_strconv_uint64pow10), ("unicode/utf8.acceptRanges", laid_unicode_utf8_acceptRanges), ("strconv.ErrRange", laid_strconv_ErrRange), ("strconv.ErrSyntax", laid_strconv_ErrSyntax), ("unicode/utf8.first", laid_unicode_utf8_first)], narrowed := true }
def FnExactReadPointsUptoSaid : Prop := fnExactReadPointsUptoRow.holds Tryd.pinned (OpenSpec.upto fnExactReadPointsSpec)

/-- 'laws.FnExactMazeText', WHERE WHAT IT READS IS OF BULK AT MOST 1048576: true; the input reads as it did. -/
def fnExactMazeTextUptoRow : OpenClaim := { program := "ytlgagjboijkpgaadoor", sum := "ed489e2a7bd5a2e2fa4c8860a0a32e2031b48a78dcf3aa9273a348c123b10fce", func := "loop.example/g01149/laws.FnExactMazeText", spec := "fnExactMazeText", inPlace := ["internal/abi.NoEscape", "internal/bytealg.MakeNoZero"], unfollowed := true, recurses := true, named := ["internal/strconv.uint64pow10", "math/bits.deBruijn32tab", "math/bits.deBruijn64tab"], apart := false, laid := [("math/bits.deBruijn32tab", laid_math_bits_deBruijn32tab), ("math/bits.deBruijn64tab", laid_math_bits_deBruijn64tab), ("internal/strconv.uint64pow10", laid_internal_strconv_uint64pow10)], narrowed := true }
def FnExactMazeTextUptoSaid : Prop := fnExactMazeTextUptoRow.holds Tryd.pinned (OpenSpec.upto fnExactMazeTextSpec)

/-- 'laws.FnExactReadMaze', WHERE WHAT IT READS IS OF BULK AT MOST 1048576: true; the input reads as it did. -/
def fnExactReadMazeUptoRow : OpenClaim := { program := "ytlgagjboijkpgaadoor", sum := "ed489e2a7bd5a2e2fa4c8860a0a32e2031b48a78dcf3aa9273a348c123b10fce", func := "loop.example/g01149/laws.FnExactReadMaze", spec := "fnExactReadMaze", inPlace := ["internal/bytealg.CountString", "internal/bytealg.IndexByteString", "internal/bytealg.IndexString"], unfollowed := true, recurses := true, named := ["unicode/utf8.first", "unicode/utf8.acceptRanges", "internal/bytealg.MaxLen"], apart := false, laid := [("unicode/utf8.acceptRanges", laid_unicode_utf8_acceptRanges), ("unicode/utf8.first", laid_unicode_utf8_first)], narrowed := true }
def FnExactReadMazeUptoSaid : Prop := fnExactReadMazeUptoRow.holds Tryd.pinned (OpenSpec.upto fnExactReadMazeSpec)

/-- 'laws.FnExactChannelText', WHERE WHAT IT READS IS OF BULK AT MOST 1048576: true; the input reads as it did. -/
def fnExactChannelTextUptoRow : OpenClaim := { program := "ytlgagjboijkpgaadoor", sum := "ed489e2a7bd5a2e2fa4c8860a0a32e2031b48a78dcf3aa9273a348c123b10fce", func := "loop.example/g01149/laws.FnExactChannelText", spec := "fnExactChannelText", inPlace := ["internal/abi.NoEscape", "internal/bytealg.MakeNoZero"], named := ["internal/strconv.uint64pow10", "math/bits.deBruijn32tab", "math/bits.deBruijn64tab"], apart := false, laid := [("math/bits.deBruijn32tab", laid_math_bits_deBruijn32tab), ("math/bits.deBruijn64tab", laid_math_bits_deBruijn64tab), ("internal/strconv.uint64pow10", laid_internal_strconv_uint64pow10)], narrowed := true }
def FnExactChannelTextUptoSaid : Prop := fnExactChannelTextUptoRow.holds Tryd.pinned (OpenSpec.upto fnExactChannelTextSpec)

/-- 'laws.FnExactReadChannel', WHERE WHAT IT READS IS OF BULK AT MOST 1048576: true; the input reads as it did. -/
def fnExactReadChannelUptoRow : OpenClaim := { program := "ytlgagjboijkpgaadoor", sum := "ed489e2a7bd5a2e2fa4c8860a0a32e2031b48a78dcf3aa9273a348c123b10fce", func := "loop.example/g01149/laws.FnExactReadChannel", spec := "fnExactReadChannel", inPlace := ["internal/bytealg.IndexByteString", "internal/bytealg.IndexString", "internal/bytealg.CountString"], named := ["internal/bytealg.MaxLen", "unicode/utf8.first", "unicode/utf8.acceptRanges", "strconv.ErrSyntax", "strconv.ErrRange", "internal/strconv.uint64pow10", "math/bits.deBruijn32tab", "math/bits.deBruijn64tab"], apart := false, laid := [("math/bits.deBruijn32tab", laid_math_bits_deBruijn32tab), ("math/bits.deBruijn64tab", laid_math_bits_deBruijn64tab), ("internal/strconv.uint64pow10", laid_internal_strconv_uint64pow10), ("unicode/utf8.acceptRanges", laid_unicode_utf8_acceptRanges), ("strconv.ErrRange", laid_strconv_ErrRange), ("strconv.ErrSyntax", laid_strconv_ErrSyntax), ("unicode/utf8.first", laid_unicode_utf8_first)], narrowed := true }
def FnExactReadChannelUptoSaid : Prop := fnExactReadChannelUptoRow.holds Tryd.pinned (OpenSpec.upto fnExactReadChannelSpec)

end Rows
end Go.Proofs.YtlgagjboijkpgaaDoor
