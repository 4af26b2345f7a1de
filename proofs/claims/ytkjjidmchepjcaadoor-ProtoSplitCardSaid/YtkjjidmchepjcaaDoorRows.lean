/-
  NARROWER THAN 'FOR EVERY INPUT', by the rows' own cells (each row's printed sentence says how): ProtoSplit: laid · ProtoStream: laid · ProtoCode: laid · ProtoDecode: laid · WireBehind: laid · WireCode: laid · WireDecode: laid · WireShort: laid · NameSearch: laid · NameReverse: laid · NameRooted: laid.
  DERIVED. THE GIVEN ROWS OF THIS SEAT. 11 by the template 'for every input the law returns true; each argument reads behind the call as it read before'; 0 by the template 'total and deterministic' (their statements: YtkjjidmchepjcaaDoorTotals.lean).
  GIVEN WITH THE SEED: the statements are not yours to turn. If you find one false, say at which input.
  Laid BY PROGRAM, IN A SANDBOX (cutbox-rows.mjs): the forced cells as the released guide's own fill.sh prints them over the translation 2c189efbf64aa170… (all of the seat's roots in one cut). By AI agents, Wed Nov 11 2026. No macro, syntax, notation, axiom, sorry.
-/
import Derived.Test.YtkjjidmchepjcaaDoorChecked
import GoSem.PinnedTables
import GoSem.Claim
import GoSem.ClaimJoined
import GoSem.ClaimMapViews
import Derived.JoinedTies
import Derived.KernelRfl
namespace Go.Proofs.YtkjjidmchepjcaaDoor
/- THE CELL 'sum', in the pinned program and in every row, IS THE sha256 OF THE DUMP (.gsa) THAT YtkjjidmchepjcaaDoorProg.lean LOADS. Nothing in Lean hashes anything: it is a label: what it is worth is what the hold of that sum in a sandbox is worth. -/
noncomputable def Tryd.pinned : Pinned := { name := "ytkjjidmchepjcaadoor", sum := "2c189efbf64aa170150cf8bb46c8117d6da945a8c7ddac080c865e9c26128b38", checked := Tryd.checked }
namespace Rows
def none {H : Type} : Left H := { results := [], args := [] }

/- WHAT THE LISTED PACKAGE-LEVEL VARIABLES READ AS WHEN THE CALL BEGINS. Each datum BY PROGRAM (the guide's laid-datum.mjs) off the statement by which the dump's own 'gosem.cut.vars' lays the variable. In a bare row this is a premise. The card (YtkjjidmchepjcaaDoorCards.lean) ties it to the program's text. -/
def laid_unicode_utf8_acceptRanges {H : Type} : DataW H := .agg [.agg [.lit (.int .u8 128), .lit (.int .u8 191)], .agg [.lit (.int .u8 160), .lit (.int .u8 191)], .agg [.lit (.int .u8 128), .lit (.int .u8 159)], .agg [.lit (.int .u8 144), .lit (.int .u8 191)], .agg [.lit (.int .u8 128), .lit (.int .u8 143)], .agg [.lit (.int .u8 0), .lit (.int .u8 0)], .agg [.lit (.int .u8 0), .lit (.int .u8 0)], .agg [.lit (.int .u8 0), .lit (.int .u8 0)], .agg [.lit (.int .u8 0), .lit (.int .u8 0)], .agg [.lit (.int .u8 0), .lit (.int .u8 0)], .agg [.lit (.int .u8 0), .lit (.int .u8 0)], .agg [.lit (.int .u8 0), .lit (.int .u8 0)], .agg [.lit (.int .u8 0), .lit (.int .u8 0)], .agg [.lit (.int .u8 0), .lit (.int .u8 0)], .agg [.lit (.int .u8 0), .lit (.int .u8 0)], .agg [.lit (.int .u8 0), .lit (.int .u8 0)]]
/-- One of Go's own tables, pinned by name: the form's constant. -/
def laid_unicode_utf8_first : DataW Unit := Go.Pinned.utf8First
def laid_math_bits_deBruijn32tab {H : Type} : DataW H := .agg [.lit (.int .u8 0), .lit (.int .u8 1), .lit (.int .u8 28), .lit (.int .u8 2), .lit (.int .u8 29), .lit (.int .u8 14), .lit (.int .u8 24), .lit (.int .u8 3), .lit (.int .u8 30), .lit (.int .u8 22), .lit (.int .u8 20), .lit (.int .u8 15), .lit (.int .u8 25), .lit (.int .u8 17), .lit (.int .u8 4), .lit (.int .u8 8), .lit (.int .u8 31), .lit (.int .u8 27), .lit (.int .u8 13), .lit (.int .u8 23), .lit (.int .u8 21), .lit (.int .u8 19), .lit (.int .u8 16), .lit (.int .u8 7), .lit (.int .u8 26), .lit (.int .u8 12), .lit (.int .u8 18), .lit (.int .u8 6), .lit (.int .u8 11), .lit (.int .u8 5), .lit (.int .u8 10), .lit (.int .u8 9)]
def laid_math_bits_deBruijn64tab {H : Type} : DataW H := .agg [.lit (.int .u8 0), .lit (.int .u8 1), .lit (.int .u8 56), .lit (.int .u8 2), .lit (.int .u8 57), .lit (.int .u8 49), .lit (.int .u8 28), .lit (.int .u8 3), .lit (.int .u8 61), .lit (.int .u8 58), .lit (.int .u8 42), .lit (.int .u8 50), .lit (.int .u8 38), .lit (.int .u8 29), .lit (.int .u8 17), .lit (.int .u8 4), .lit (.int .u8 62), .lit (.int .u8 47), .lit (.int .u8 59), .lit (.int .u8 36), .lit (.int .u8 45), .lit (.int .u8 43), .lit (.int .u8 51), .lit (.int .u8 22), .lit (.int .u8 53), .lit (.int .u8 39), .lit (.int .u8 33), .lit (.int .u8 30), .lit (.int .u8 24), .lit (.int .u8 18), .lit (.int .u8 12), .lit (.int .u8 5), .lit (.int .u8 63), .lit (.int .u8 55), .lit (.int .u8 48), .lit (.int .u8 27), .lit (.int .u8 60), .lit (.int .u8 41), .lit (.int .u8 37), .lit (.int .u8 16), .lit (.int .u8 46), .lit (.int .u8 35), .lit (.int .u8 44), .lit (.int .u8 21), .lit (.int .u8 52), .lit (.int .u8 32), .lit (.int .u8 23), .lit (.int .u8 11), .lit (.int .u8 54), .lit (.int .u8 26), .lit (.int .u8 40), .lit (.int .u8 15), .lit (.int .u8 34), .lit (.int .u8 20), .lit (.int .u8 31), .lit (.int .u8 10), .lit (.int .u8 25), .lit (.int .u8 14), .lit (.int .u8 19), .lit (.int .u8 9), .lit (.int .u8 13), .lit (.int .u8 8), .lit (.int .u8 7), .lit (.int .u8 6)]
def laid_internal_strconv_uint64pow10 {H : Type} : DataW H := .agg [.lit (.int .u64 1), .lit (.int .u64 10), .lit (.int .u64 100), .lit (.int .u64 1000), .lit (.int .u64 10000), .lit (.int .u64 100000), .lit (.int .u64 1000000), .lit (.int .u64 10000000), .lit (.int .u64 100000000), .lit (.int .u64 1000000000), .lit (.int .u64 10000000000), .lit (.int .u64 100000000000), .lit (.int .u64 1000000000000), .lit (.int .u64 10000000000000), .lit (.int .u64 100000000000000), .lit (.int .u64 1000000000000000), .lit (.int .u64 10000000000000000), .lit (.int .u64 100000000000000000), .lit (.int .u64 1000000000000000000), .lit (.int .u64 10000000000000000000)]

/-- 'conciergelaw24.ProtoSplit': WHATEVER THE INPUT: true; the input reads as it did. -/
def protoSplitSpec : ChangeSpec := { name := "protoSplit", fn := fun _ => fun
  | [d1, d2] => { results := [.lit (.bool true)], args := [d1, d2] }
  | _ => none }
def protoSplitRow : OpenClaim := { program := "ytkjjidmchepjcaadoor", sum := "2c189efbf64aa170150cf8bb46c8117d6da945a8c7ddac080c865e9c26128b38", func := "concierge/conciergelaw24.ProtoSplit", spec := "protoSplit", inPlace := ["internal/bytealg.CountString", "internal/bytealg.IndexByteString", "internal/bytealg.IndexString"], named := ["unicode/utf8.first", "unicode/utf8.acceptRanges", "internal/bytealg.MaxLen"], apart := false, laid := [("unicode/utf8.acceptRanges", laid_unicode_utf8_acceptRanges), ("unicode/utf8.first", laid_unicode_utf8_first)] }
def ProtoSplitSaid : Prop := protoSplitRow.holds Tryd.pinned (OpenSpec.ofChange protoSplitSpec)

/-- ITS FALSE NEIGHBOUR: 'it returns false'. Refute it at one input. -/
def protoSplitWrong : ChangeSpec := { name := "protoSplit", fn := fun _ => fun
  | [d1, d2] => { results := [.lit (.bool false)], args := [d1, d2] }
  | _ => none }
def ProtoSplitWrongFalsely : Prop := protoSplitRow.holds Tryd.pinned (OpenSpec.ofChange protoSplitWrong)

/-- 'conciergelaw24.ProtoStream': WHATEVER THE INPUT: true; the input reads as it did. -/
def protoStreamSpec : ChangeSpec := { name := "protoStream", fn := fun _ => fun
  | [d1, d2] => { results := [.lit (.bool true)], args := [d1, d2] }
  | _ => none }
def protoStreamRow : OpenClaim := { program := "ytkjjidmchepjcaadoor", sum := "2c189efbf64aa170150cf8bb46c8117d6da945a8c7ddac080c865e9c26128b38", func := "concierge/conciergelaw24.ProtoStream", spec := "protoStream", inPlace := ["internal/bytealg.CountString", "internal/bytealg.IndexByteString", "internal/bytealg.IndexString"], named := ["unicode/utf8.first", "unicode/utf8.acceptRanges", "internal/bytealg.MaxLen"], apart := false, laid := [("unicode/utf8.acceptRanges", laid_unicode_utf8_acceptRanges), ("unicode/utf8.first", laid_unicode_utf8_first)] }
def ProtoStreamSaid : Prop := protoStreamRow.holds Tryd.pinned (OpenSpec.ofChange protoStreamSpec)

/-- ITS FALSE NEIGHBOUR: 'it returns false'. Refute it at one input. -/
def protoStreamWrong : ChangeSpec := { name := "protoStream", fn := fun _ => fun
  | [d1, d2] => { results := [.lit (.bool false)], args := [d1, d2] }
  | _ => none }
def ProtoStreamWrongFalsely : Prop := protoStreamRow.holds Tryd.pinned (OpenSpec.ofChange protoStreamWrong)

/-- 'conciergelaw24.ProtoCode': WHATEVER THE INPUT: true; the input reads as it did. -/
def protoCodeSpec : ChangeSpec := { name := "protoCode", fn := fun _ => fun
  | [d] => { results := [.lit (.bool true)], args := [d] }
  | _ => none }
def protoCodeRow : OpenClaim := { program := "ytkjjidmchepjcaadoor", sum := "2c189efbf64aa170150cf8bb46c8117d6da945a8c7ddac080c865e9c26128b38", func := "concierge/conciergelaw24.ProtoCode", spec := "protoCode", inPlace := ["internal/bytealg.CountString", "internal/bytealg.IndexByteString", "internal/bytealg.IndexString"], unfollowed := true, recurses := true, named := ["unicode/utf8.first", "unicode/utf8.acceptRanges", "internal/bytealg.MaxLen"], apart := false, laid := [("unicode/utf8.acceptRanges", laid_unicode_utf8_acceptRanges), ("unicode/utf8.first", laid_unicode_utf8_first)] }
def ProtoCodeSaid : Prop := protoCodeRow.holds Tryd.pinned (OpenSpec.ofChange protoCodeSpec)

/-- ITS FALSE NEIGHBOUR: 'it returns false'. Refute it at one input. -/
def protoCodeWrong : ChangeSpec := { name := "protoCode", fn := fun _ => fun
  | [d] => { results := [.lit (.bool false)], args := [d] }
  | _ => none }
def ProtoCodeWrongFalsely : Prop := protoCodeRow.holds Tryd.pinned (OpenSpec.ofChange protoCodeWrong)

/-- 'conciergelaw24.ProtoDecode': WHATEVER THE INPUT: true; the input reads as it did. -/
def protoDecodeSpec : ChangeSpec := { name := "protoDecode", fn := fun _ => fun
  | [d1, d2, d3, d4] => { results := [.lit (.bool true)], args := [d1, d2, d3, d4] }
  | _ => none }
def protoDecodeRow : OpenClaim := { program := "ytkjjidmchepjcaadoor", sum := "2c189efbf64aa170150cf8bb46c8117d6da945a8c7ddac080c865e9c26128b38", func := "concierge/conciergelaw24.ProtoDecode", spec := "protoDecode", inPlace := ["internal/bytealg.CountString", "internal/bytealg.IndexByteString", "internal/bytealg.IndexString"], unfollowed := true, recurses := true, named := ["unicode/utf8.first", "unicode/utf8.acceptRanges", "internal/bytealg.MaxLen"], apart := false, laid := [("unicode/utf8.acceptRanges", laid_unicode_utf8_acceptRanges), ("unicode/utf8.first", laid_unicode_utf8_first)] }
def ProtoDecodeSaid : Prop := protoDecodeRow.holds Tryd.pinned (OpenSpec.ofChange protoDecodeSpec)

/-- ITS FALSE NEIGHBOUR: 'it returns false'. Refute it at one input. -/
def protoDecodeWrong : ChangeSpec := { name := "protoDecode", fn := fun _ => fun
  | [d1, d2, d3, d4] => { results := [.lit (.bool false)], args := [d1, d2, d3, d4] }
  | _ => none }
def ProtoDecodeWrongFalsely : Prop := protoDecodeRow.holds Tryd.pinned (OpenSpec.ofChange protoDecodeWrong)

/-- 'conciergelaw5.WireBehind': WHATEVER THE INPUT: true; the input reads as it did. -/
def wireBehindSpec : ChangeSpec := { name := "wireBehind", fn := fun _ => fun
  | [d1, d2, d3, d4] => { results := [.lit (.bool true)], args := [d1, d2, d3, d4] }
  | _ => none }
def wireBehindRow : OpenClaim := { program := "ytkjjidmchepjcaadoor", sum := "2c189efbf64aa170150cf8bb46c8117d6da945a8c7ddac080c865e9c26128b38", func := "concierge/conciergelaw5.WireBehind", spec := "wireBehind", inPlace := ["internal/bytealg.CountString", "internal/bytealg.IndexByteString", "internal/bytealg.IndexString", "internal/abi.NoEscape", "internal/bytealg.MakeNoZero"], named := ["unicode/utf8.first", "unicode/utf8.acceptRanges", "internal/bytealg.MaxLen"], apart := false, laid := [("unicode/utf8.acceptRanges", laid_unicode_utf8_acceptRanges), ("unicode/utf8.first", laid_unicode_utf8_first)] }
def WireBehindSaid : Prop := wireBehindRow.holds Tryd.pinned (OpenSpec.ofChange wireBehindSpec)

/-- ITS FALSE NEIGHBOUR: 'it returns false'. Refute it at one input. -/
def wireBehindWrong : ChangeSpec := { name := "wireBehind", fn := fun _ => fun
  | [d1, d2, d3, d4] => { results := [.lit (.bool false)], args := [d1, d2, d3, d4] }
  | _ => none }
def WireBehindWrongFalsely : Prop := wireBehindRow.holds Tryd.pinned (OpenSpec.ofChange wireBehindWrong)

/-- 'conciergelaw5.WireCode': WHATEVER THE INPUT: true; the input reads as it did. -/
def wireCodeSpec : ChangeSpec := { name := "wireCode", fn := fun _ => fun
  | [d] => { results := [.lit (.bool true)], args := [d] }
  | _ => none }
def wireCodeRow : OpenClaim := { program := "ytkjjidmchepjcaadoor", sum := "2c189efbf64aa170150cf8bb46c8117d6da945a8c7ddac080c865e9c26128b38", func := "concierge/conciergelaw5.WireCode", spec := "wireCode", inPlace := ["internal/bytealg.CountString", "internal/bytealg.IndexByteString", "internal/bytealg.IndexString", "internal/abi.NoEscape", "internal/bytealg.MakeNoZero"], unfollowed := true, recurses := true, named := ["unicode/utf8.first", "unicode/utf8.acceptRanges", "internal/bytealg.MaxLen"], apart := false, laid := [("unicode/utf8.acceptRanges", laid_unicode_utf8_acceptRanges), ("unicode/utf8.first", laid_unicode_utf8_first)] }
def WireCodeSaid : Prop := wireCodeRow.holds Tryd.pinned (OpenSpec.ofChange wireCodeSpec)

/-- ITS FALSE NEIGHBOUR: 'it returns false'. Refute it at one input. -/
def wireCodeWrong : ChangeSpec := { name := "wireCode", fn := fun _ => fun
  | [d] => { results := [.lit (.bool false)], args := [d] }
  | _ => none }
def WireCodeWrongFalsely : Prop := wireCodeRow.holds Tryd.pinned (OpenSpec.ofChange wireCodeWrong)

/-- 'conciergelaw5.WireDecode': WHATEVER THE INPUT: true; the input reads as it did. -/
def wireDecodeSpec : ChangeSpec := { name := "wireDecode", fn := fun _ => fun
  | [d1, d2, d3, d4] => { results := [.lit (.bool true)], args := [d1, d2, d3, d4] }
  | _ => none }
def wireDecodeRow : OpenClaim := { program := "ytkjjidmchepjcaadoor", sum := "2c189efbf64aa170150cf8bb46c8117d6da945a8c7ddac080c865e9c26128b38", func := "concierge/conciergelaw5.WireDecode", spec := "wireDecode", inPlace := ["internal/bytealg.CountString", "internal/bytealg.IndexByteString", "internal/bytealg.IndexString", "internal/abi.NoEscape", "internal/bytealg.MakeNoZero"], unfollowed := true, recurses := true, named := ["unicode/utf8.first", "unicode/utf8.acceptRanges", "internal/bytealg.MaxLen"], apart := false, laid := [("unicode/utf8.acceptRanges", laid_unicode_utf8_acceptRanges), ("unicode/utf8.first", laid_unicode_utf8_first)] }
def WireDecodeSaid : Prop := wireDecodeRow.holds Tryd.pinned (OpenSpec.ofChange wireDecodeSpec)

/-- ITS FALSE NEIGHBOUR: 'it returns false'. Refute it at one input. -/
def wireDecodeWrong : ChangeSpec := { name := "wireDecode", fn := fun _ => fun
  | [d1, d2, d3, d4] => { results := [.lit (.bool false)], args := [d1, d2, d3, d4] }
  | _ => none }
def WireDecodeWrongFalsely : Prop := wireDecodeRow.holds Tryd.pinned (OpenSpec.ofChange wireDecodeWrong)

/-- 'conciergelaw5.WireShort': WHATEVER THE INPUT: true; the input reads as it did. -/
def wireShortSpec : ChangeSpec := { name := "wireShort", fn := fun _ => fun
  | [d1, d2] => { results := [.lit (.bool true)], args := [d1, d2] }
  | _ => none }
def wireShortRow : OpenClaim := { program := "ytkjjidmchepjcaadoor", sum := "2c189efbf64aa170150cf8bb46c8117d6da945a8c7ddac080c865e9c26128b38", func := "concierge/conciergelaw5.WireShort", spec := "wireShort", inPlace := ["internal/bytealg.CountString", "internal/bytealg.IndexByteString", "internal/bytealg.IndexString", "internal/abi.NoEscape", "internal/bytealg.MakeNoZero"], unfollowed := true, recurses := true, named := ["unicode/utf8.first", "unicode/utf8.acceptRanges", "internal/bytealg.MaxLen"], apart := false, laid := [("unicode/utf8.acceptRanges", laid_unicode_utf8_acceptRanges), ("unicode/utf8.first", laid_unicode_utf8_first)] }
def WireShortSaid : Prop := wireShortRow.holds Tryd.pinned (OpenSpec.ofChange wireShortSpec)

/-- ITS FALSE NEIGHBOUR: 'it returns false'. Refute it at one input. -/
def wireShortWrong : ChangeSpec := { name := "wireShort", fn := fun _ => fun
  | [d1, d2] => { results := [.lit (.bool false)], args := [d1, d2] }
  | _ => none }
def WireShortWrongFalsely : Prop := wireShortRow.holds Tryd.pinned (OpenSpec.ofChange wireShortWrong)

/-- 'conciergelaw4.NameSearch': WHATEVER THE INPUT: true; the input reads as it did. -/
def nameSearchSpec : ChangeSpec := { name := "nameSearch", fn := fun _ => fun
  | [d1, d2, d3] => { results := [.lit (.bool true)], args := [d1, d2, d3] }
  | _ => none }
def nameSearchRow : OpenClaim := { program := "ytkjjidmchepjcaadoor", sum := "2c189efbf64aa170150cf8bb46c8117d6da945a8c7ddac080c865e9c26128b38", func := "concierge/conciergelaw4.NameSearch", spec := "nameSearch", inPlace := ["internal/bytealg.CountString", "internal/bytealg.IndexByteString", "internal/bytealg.IndexString", "internal/abi.NoEscape", "internal/bytealg.MakeNoZero"], named := ["unicode/utf8.first", "unicode/utf8.acceptRanges", "internal/bytealg.MaxLen", "internal/strconv.uint64pow10", "math/bits.deBruijn32tab", "math/bits.deBruijn64tab"], apart := false, laid := [("math/bits.deBruijn32tab", laid_math_bits_deBruijn32tab), ("math/bits.deBruijn64tab", laid_math_bits_deBruijn64tab), ("internal/strconv.uint64pow10", laid_internal_strconv_uint64pow10), ("unicode/utf8.acceptRanges", laid_unicode_utf8_acceptRanges), ("unicode/utf8.first", laid_unicode_utf8_first)] }
def NameSearchSaid : Prop := nameSearchRow.holds Tryd.pinned (OpenSpec.ofChange nameSearchSpec)

/-- ITS FALSE NEIGHBOUR: 'it returns false'. Refute it at one input. -/
def nameSearchWrong : ChangeSpec := { name := "nameSearch", fn := fun _ => fun
  | [d1, d2, d3] => { results := [.lit (.bool false)], args := [d1, d2, d3] }
  | _ => none }
def NameSearchWrongFalsely : Prop := nameSearchRow.holds Tryd.pinned (OpenSpec.ofChange nameSearchWrong)

/-- 'conciergelaw4.NameReverse': WHATEVER THE INPUT: true; the input reads as it did. -/
def nameReverseSpec : ChangeSpec := { name := "nameReverse", fn := fun _ => fun
  | [d] => { results := [.lit (.bool true)], args := [d] }
  | _ => none }
def nameReverseRow : OpenClaim := { program := "ytkjjidmchepjcaadoor", sum := "2c189efbf64aa170150cf8bb46c8117d6da945a8c7ddac080c865e9c26128b38", func := "concierge/conciergelaw4.NameReverse", spec := "nameReverse", inPlace := ["internal/bytealg.CountString", "internal/bytealg.IndexByteString", "internal/bytealg.IndexString", "internal/abi.NoEscape", "internal/bytealg.MakeNoZero"], named := ["unicode/utf8.first", "unicode/utf8.acceptRanges", "internal/bytealg.MaxLen", "internal/strconv.uint64pow10", "math/bits.deBruijn32tab", "math/bits.deBruijn64tab"], apart := false, laid := [("math/bits.deBruijn32tab", laid_math_bits_deBruijn32tab), ("math/bits.deBruijn64tab", laid_math_bits_deBruijn64tab), ("internal/strconv.uint64pow10", laid_internal_strconv_uint64pow10), ("unicode/utf8.acceptRanges", laid_unicode_utf8_acceptRanges), ("unicode/utf8.first", laid_unicode_utf8_first)] }
def NameReverseSaid : Prop := nameReverseRow.holds Tryd.pinned (OpenSpec.ofChange nameReverseSpec)

/-- ITS FALSE NEIGHBOUR: 'it returns false'. Refute it at one input. -/
def nameReverseWrong : ChangeSpec := { name := "nameReverse", fn := fun _ => fun
  | [d] => { results := [.lit (.bool false)], args := [d] }
  | _ => none }
def NameReverseWrongFalsely : Prop := nameReverseRow.holds Tryd.pinned (OpenSpec.ofChange nameReverseWrong)

/-- 'conciergelaw4.NameRooted': WHATEVER THE INPUT: true; the input reads as it did. -/
def nameRootedSpec : ChangeSpec := { name := "nameRooted", fn := fun _ => fun
  | [d1, d2, d3] => { results := [.lit (.bool true)], args := [d1, d2, d3] }
  | _ => none }
def nameRootedRow : OpenClaim := { program := "ytkjjidmchepjcaadoor", sum := "2c189efbf64aa170150cf8bb46c8117d6da945a8c7ddac080c865e9c26128b38", func := "concierge/conciergelaw4.NameRooted", spec := "nameRooted", inPlace := ["internal/bytealg.CountString", "internal/bytealg.IndexByteString", "internal/bytealg.IndexString", "internal/abi.NoEscape", "internal/bytealg.MakeNoZero"], named := ["unicode/utf8.first", "unicode/utf8.acceptRanges", "internal/bytealg.MaxLen", "internal/strconv.uint64pow10", "math/bits.deBruijn32tab", "math/bits.deBruijn64tab"], apart := false, laid := [("math/bits.deBruijn32tab", laid_math_bits_deBruijn32tab), ("math/bits.deBruijn64tab", laid_math_bits_deBruijn64tab), ("internal/strconv.uint64pow10", laid_internal_strconv_uint64pow10), ("unicode/utf8.acceptRanges", laid_unicode_utf8_acceptRanges), ("unicode/utf8.first", laid_unicode_utf8_first)] }
def NameRootedSaid : Prop := nameRootedRow.holds Tryd.pinned (OpenSpec.ofChange nameRootedSpec)

/-- ITS FALSE NEIGHBOUR: 'it returns false'. Refute it at one input. -/
def nameRootedWrong : ChangeSpec := { name := "nameRooted", fn := fun _ => fun
  | [d1, d2, d3] => { results := [.lit (.bool false)], args := [d1, d2, d3] }
  | _ => none }
def NameRootedWrongFalsely : Prop := nameRootedRow.holds Tryd.pinned (OpenSpec.ofChange nameRootedWrong)

/- THE SECOND FORM. 'bulk': how many values and letters a reading holds, each counted each time it is reached (what is shared counts as often as it is met; a slice's spare places count too). A statement '..UptoSaid' is the law's where the arguments, and the package variables that the reading takes, are together of bulk at most 1048576: NARROWER than '..Said'. Prove '..Said' where nothing that the law and all that it calls make is longer than what came in: it says more and counts as full. Else prove '..UptoSaid'. A law counts once. -/
mutual
def uptoBulk {H : Type} : DataW H → Nat
  | .lit (.string bytes) => bytes.length + 1
  | .lit _ => 1
  | .nil => 1
  | .ptr d => uptoBulk d + 1
  | .slice elems spare => uptoBulkAll elems + uptoBulkAll spare + 1
  | .agg parts => uptoBulkAll parts + 1
  | .iface _ d => uptoBulk d + 1
  | .map entries => uptoBulkEntries entries + 1
  | .held _ => 1
def uptoBulkAll {H : Type} : List (DataW H) → Nat
  | [] => 0
  | d :: r => uptoBulk d + uptoBulkAll r
def uptoBulkEntries {H : Type} : List (Lit × DataW H) → Nat
  | [] => 0
  | x :: r => uptoBulkEntry x + uptoBulkEntries r
def uptoBulkEntry {H : Type} : Lit × DataW H → Nat
  | (.string bytes, d) => bytes.length + uptoBulk d + 1
  | (_, d) => uptoBulk d + 1
 end
def uptoSmall : (H : Type) → List (DataW H) → Bool := fun _ ds => decide (uptoBulkAll ds ≤ 1048576)
def OpenSpec.upto (s : _root_.Go.ChangeSpec) : _root_.Go.OpenSpec := { _root_.Go.OpenSpec.ofChange s with cond := some uptoSmall }

/-- 'conciergelaw24.ProtoSplit', WHERE WHAT IT READS IS OF BULK AT MOST 1048576: true; the input reads as it did. -/
def protoSplitUptoRow : OpenClaim := { program := "ytkjjidmchepjcaadoor", sum := "2c189efbf64aa170150cf8bb46c8117d6da945a8c7ddac080c865e9c26128b38", func := "concierge/conciergelaw24.ProtoSplit", spec := "protoSplit", inPlace := ["internal/bytealg.CountString", "internal/bytealg.IndexByteString", "internal/bytealg.IndexString"], named := ["unicode/utf8.first", "unicode/utf8.acceptRanges", "internal/bytealg.MaxLen"], apart := false, laid := [("unicode/utf8.acceptRanges", laid_unicode_utf8_acceptRanges), ("unicode/utf8.first", laid_unicode_utf8_first)], narrowed := true }
def ProtoSplitUptoSaid : Prop := protoSplitUptoRow.holds Tryd.pinned (OpenSpec.upto protoSplitSpec)

/-- 'conciergelaw24.ProtoStream', WHERE WHAT IT READS IS OF BULK AT MOST 1048576: true; the input reads as it did. -/
def protoStreamUptoRow : OpenClaim := { program := "ytkjjidmchepjcaadoor", sum := "2c189efbf64aa170150cf8bb46c8117d6da945a8c7ddac080c865e9c26128b38", func := "concierge/conciergelaw24.ProtoStream", spec := "protoStream", inPlace := ["internal/bytealg.CountString", "internal/bytealg.IndexByteString", "internal/bytealg.IndexString"], named := ["unicode/utf8.first", "unicode/utf8.acceptRanges", "internal/bytealg.MaxLen"], apart := false, laid := [("unicode/utf8.acceptRanges", laid_unicode_utf8_acceptRanges), ("unicode/utf8.first", laid_unicode_utf8_first)], narrowed := true }
def ProtoStreamUptoSaid : Prop := protoStreamUptoRow.holds Tryd.pinned (OpenSpec.upto protoStreamSpec)

/-- 'conciergelaw24.ProtoCode', WHERE WHAT IT READS IS OF BULK AT MOST 1048576: true; the input reads as it did. -/
def protoCodeUptoRow : OpenClaim := { program := "ytkjjidmchepjcaadoor", sum := "2c189efbf64aa170150cf8bb46c8117d6da945a8c7ddac080c865e9c26128b38", func := "concierge/conciergelaw24.ProtoCode", spec := "protoCode", inPlace := ["internal/bytealg.CountString", "internal/bytealg.IndexByteString", "internal/bytealg.IndexString"], unfollowed := true, recurses := true, named := ["unicode/utf8.first", "unicode/utf8.acceptRanges", "internal/bytealg.MaxLen"], apart := false, laid := [("unicode/utf8.acceptRanges", laid_unicode_utf8_acceptRanges), ("unicode/utf8.first", laid_unicode_utf8_first)], narrowed := true }
def ProtoCodeUptoSaid : Prop := protoCodeUptoRow.holds Tryd.pinned (OpenSpec.upto protoCodeSpec)

/-- 'conciergelaw24.ProtoDecode', WHERE WHAT IT READS IS OF BULK AT MOST 1048576: true; the input reads as it did. -/
def protoDecodeUptoRow : OpenClaim := { program := "ytkjjidmchepjcaadoor", sum := "2c189efbf64aa170150cf8bb46c8117d6da945a8c7ddac080c865e9c26128b38", func := "concierge/conciergelaw24.ProtoDecode", spec := "protoDecode", inPlace := ["internal/bytealg.CountString", "internal/bytealg.IndexByteString", "internal/bytealg.IndexString"], unfollowed := true, recurses := true, named := ["unicode/utf8.first", "unicode/utf8.acceptRanges", "internal/bytealg.MaxLen"], apart := false, laid := [("unicode/utf8.acceptRanges", laid_unicode_utf8_acceptRanges), ("unicode/utf8.first", laid_unicode_utf8_first)], narrowed := true }
def ProtoDecodeUptoSaid : Prop := protoDecodeUptoRow.holds Tryd.pinned (OpenSpec.upto protoDecodeSpec)

/-- 'conciergelaw5.WireBehind', WHERE WHAT IT READS IS OF BULK AT MOST 1048576: true; the input reads as it did. -/
def wireBehindUptoRow : OpenClaim := { program := "ytkjjidmchepjcaadoor", sum := "2c189efbf64aa170150cf8bb46c8117d6da945a8c7ddac080c865e9c26128b38", func := "concierge/conciergelaw5.WireBehind", spec := "wireBehind", inPlace := ["internal/bytealg.CountString", "internal/bytealg.IndexByteString", "internal/bytealg.IndexString", "internal/abi.NoEscape", "internal/bytealg.MakeNoZero"], named := ["unicode/utf8.first", "unicode/utf8.acceptRanges", "internal/bytealg.MaxLen"], apart := false, laid := [("unicode/utf8.acceptRanges", laid_unicode_utf8_acceptRanges), ("unicode/utf8.first", laid_unicode_utf8_first)], narrowed := true }
def WireBehindUptoSaid : Prop := wireBehindUptoRow.holds Tryd.pinned (OpenSpec.upto wireBehindSpec)

/-- 'conciergelaw5.WireCode', WHERE WHAT IT READS IS OF BULK AT MOST 1048576: true; the input reads as it did. -/
def wireCodeUptoRow : OpenClaim := { program := "ytkjjidmchepjcaadoor", sum := "2c189efbf64aa170150cf8bb46c8117d6da945a8c7ddac080c865e9c26128b38", func := "concierge/conciergelaw5.WireCode", spec := "wireCode", inPlace := ["internal/bytealg.CountString", "internal/bytealg.IndexByteString", "internal/bytealg.IndexString", "internal/abi.NoEscape", "internal/bytealg.MakeNoZero"], unfollowed := true, recurses := true, named := ["unicode/utf8.first", "unicode/utf8.acceptRanges", "internal/bytealg.MaxLen"], apart := false, laid := [("unicode/utf8.acceptRanges", laid_unicode_utf8_acceptRanges), ("unicode/utf8.first", laid_unicode_utf8_first)], narrowed := true }
def WireCodeUptoSaid : Prop := wireCodeUptoRow.holds Tryd.pinned (OpenSpec.upto wireCodeSpec)

/-- 'conciergelaw5.WireDecode', WHERE WHAT IT READS IS OF BULK AT MOST 1048576: true; the input reads as it did. -/
def wireDecodeUptoRow : OpenClaim := { program := "ytkjjidmchepjcaadoor", sum := "2c189efbf64aa170150cf8bb46c8117d6da945a8c7ddac080c865e9c26128b38", func := "concierge/conciergelaw5.WireDecode", spec := "wireDecode", inPlace := ["internal/bytealg.CountString", "internal/bytealg.IndexByteString", "internal/bytealg.IndexString", "internal/abi.NoEscape", "internal/bytealg.MakeNoZero"], unfollowed := true, recurses := true, named := ["unicode/utf8.first", "unicode/utf8.acceptRanges", "internal/bytealg.MaxLen"], apart := false, laid := [("unicode/utf8.acceptRanges", laid_unicode_utf8_acceptRanges), ("unicode/utf8.first", laid_unicode_utf8_first)], narrowed := true }
def WireDecodeUptoSaid : Prop := wireDecodeUptoRow.holds Tryd.pinned (OpenSpec.upto wireDecodeSpec)

/-- 'conciergelaw5.WireShort', WHERE WHAT IT READS IS OF BULK AT MOST 1048576: true; the input reads as it did. -/
def wireShortUptoRow : OpenClaim := { program := "ytkjjidmchepjcaadoor", sum := "2c189efbf64aa170150cf8bb46c8117d6da945a8c7ddac080c865e9c26128b38", func := "concierge/conciergelaw5.WireShort", spec := "wireShort", inPlace := ["internal/bytealg.CountString", "internal/bytealg.IndexByteString", "internal/bytealg.IndexString", "internal/abi.NoEscape", "internal/bytealg.MakeNoZero"], unfollowed := true, recurses := true, named := ["unicode/utf8.first", "unicode/utf8.acceptRanges", "internal/bytealg.MaxLen"], apart := false, laid := [("unicode/utf8.acceptRanges", laid_unicode_utf8_acceptRanges), ("unicode/utf8.first", laid_unicode_utf8_first)], narrowed := true }
def WireShortUptoSaid : Prop := wireShortUptoRow.holds Tryd.pinned (OpenSpec.upto wireShortSpec)

/-- 'conciergelaw4.NameSearch', WHERE WHAT IT READS IS OF BULK AT MOST 1048576: true; the input reads as it did. -/
def nameSearchUptoRow : OpenClaim := { program := "ytkjjidmchepjcaadoor", sum := "2c189efbf64aa170150cf8bb46c8117d6da945a8c7ddac080c865e9c26128b38", func := "concierge/conciergelaw4.NameSearch", spec := "nameSearch", inPlace := ["internal/bytealg.CountString", "internal/bytealg.IndexByteString", "internal/bytealg.IndexString", "internal/abi.NoEscape", "internal/bytealg.MakeNoZero"], named := ["unicode/utf8.first", "unicode/utf8.acceptRanges", "internal/bytealg.MaxLen", "internal/strconv.uint64pow10", "math/bits.deBruijn32tab", "math/bits.deBruijn64tab"], apart := false, laid := [("math/bits.deBruijn32tab", laid_math_bits_deBruijn32tab), ("math/bits.deBruijn64tab", laid_math_bits_deBruijn64tab), ("internal/strconv.uint64pow10", laid_internal_strconv_uint64pow10), ("unicode/utf8.acceptRanges", laid_unicode_utf8_acceptRanges), ("unicode/utf8.first", laid_unicode_utf8_first)], narrowed := true }
def NameSearchUptoSaid : Prop := nameSearchUptoRow.holds Tryd.pinned (OpenSpec.upto nameSearchSpec)

/-- 'conciergelaw4.NameReverse', WHERE WHAT IT READS IS OF BULK AT MOST 1048576: true; the input reads as it did. -/
def nameReverseUptoRow : OpenClaim := { program := "ytkjjidmchepjcaadoor", sum := "2c189efbf64aa170150cf8bb46c8117d6da945a8c7ddac080c865e9c26128b38", func := "concierge/conciergelaw4.NameReverse", spec := "nameReverse", inPlace := ["internal/bytealg.CountString", "internal/bytealg.IndexByteString", "internal/bytealg.IndexString", "internal/abi.NoEscape", "internal/bytealg.MakeNoZero"], named := ["unicode/utf8.first", "unicode/utf8.acceptRanges", "internal/bytealg.MaxLen", "internal/strconv.uint64pow10", "math/bits.deBruijn32tab", "math/bits.deBruijn64tab"], apart := false, laid := [("math/bits.deBruijn32tab", laid_math_bits_deBruijn32tab), ("math/bits.deBruijn64tab", laid_math_bits_deBruijn64tab), ("internal/strconv.uint64pow10", laid_internal_strconv_uint64pow10), ("unicode/utf8.acceptRanges", laid_unicode_utf8_acceptRanges), ("unicode/utf8.first", laid_unicode_utf8_first)], narrowed := true }
def NameReverseUptoSaid : Prop := nameReverseUptoRow.holds Tryd.pinned (OpenSpec.upto nameReverseSpec)

/-- 'conciergelaw4.NameRooted', WHERE WHAT IT READS IS OF BULK AT MOST 1048576: true; the input reads as it did. -/
def nameRootedUptoRow : OpenClaim := { program := "ytkjjidmchepjcaadoor", sum := "2c189efbf64aa170150cf8bb46c8117d6da945a8c7ddac080c865e9c26128b38", func := "concierge/conciergelaw4.NameRooted", spec := "nameRooted", inPlace := ["internal/bytealg.CountString", "internal/bytealg.IndexByteString", "internal/bytealg.IndexString", "internal/abi.NoEscape", "internal/bytealg.MakeNoZero"], named := ["unicode/utf8.first", "unicode/utf8.acceptRanges", "internal/bytealg.MaxLen", "internal/strconv.uint64pow10", "math/bits.deBruijn32tab", "math/bits.deBruijn64tab"], apart := false, laid := [("math/bits.deBruijn32tab", laid_math_bits_deBruijn32tab), ("math/bits.deBruijn64tab", laid_math_bits_deBruijn64tab), ("internal/strconv.uint64pow10", laid_internal_strconv_uint64pow10), ("unicode/utf8.acceptRanges", laid_unicode_utf8_acceptRanges), ("unicode/utf8.first", laid_unicode_utf8_first)], narrowed := true }
def NameRootedUptoSaid : Prop := nameRootedUptoRow.holds Tryd.pinned (OpenSpec.upto nameRootedSpec)

end Rows
end Go.Proofs.YtkjjidmchepjcaaDoor
