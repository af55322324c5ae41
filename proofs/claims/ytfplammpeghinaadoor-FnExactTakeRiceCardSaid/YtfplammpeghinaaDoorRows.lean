/-
  NARROWER THAN 'FOR EVERY INPUT', by the rows' own cells (each row's printed sentence says how): FnExactPackBits: laid · FnExactPlaceOf: laid · FnExactTakeDelta: laid · FnExactTakeRice: laid · FnExactEncodeList: laid · FnExactDecodeList: laid · FnExactFrameBy: laid · FnExactBestFrame: laid.
  DERIVED. THE GIVEN ROWS OF THIS SEAT. 8 by the template 'for every input the law returns true; each argument reads behind the call as it read before'; 0 by the template 'total and deterministic' (their statements: YtfplammpeghinaaDoorTotals.lean).
  GIVEN WITH THE SEED: the statements are not yours to turn. If you find one false, say at which input.
  Laid BY PROGRAM, IN A SANDBOX (cutbox-rows.mjs): the forced cells as the released guide's own fill.sh prints them over the translation 72a9169c39569265… (all of the seat's roots in one cut). By AI agents, Wed Nov 11 2026. No macro, syntax, notation, axiom, sorry.
-/
import Derived.Test.YtfplammpeghinaaDoorChecked
import GoSem.PinnedTables
import GoSem.Claim
import GoSem.ClaimJoined
import GoSem.ClaimMapViews
import Derived.JoinedTies
import Derived.KernelRfl
namespace Go.Proofs.YtfplammpeghinaaDoor
/- THE CELL 'sum', in the pinned program and in every row, IS THE sha256 OF THE DUMP (.gsa) THAT YtfplammpeghinaaDoorProg.lean LOADS. Nothing in Lean hashes anything: it is a label: what it is worth is what the hold of that sum in a sandbox is worth. -/
noncomputable def Tryd.pinned : Pinned := { name := "ytfplammpeghinaadoor", sum := "72a9169c395692651ecb30ff884773c91bd3e09ffd2e237399f7ddba236ce8ff", checked := Tryd.checked }
namespace Rows
def none {H : Type} : Left H := { results := [], args := [] }

/- WHAT THE LISTED PACKAGE-LEVEL VARIABLES READ AS WHEN THE CALL BEGINS. Each datum BY PROGRAM (the guide's laid-datum.mjs) off the statement by which the dump's own 'gosem.cut.vars' lays the variable. In a bare row this is a premise. The card (YtfplammpeghinaaDoorCards.lean) ties it to the program's text. -/
def laid_unicode_utf8_acceptRanges {H : Type} : DataW H := .agg [.agg [.lit (.int .u8 128), .lit (.int .u8 191)], .agg [.lit (.int .u8 160), .lit (.int .u8 191)], .agg [.lit (.int .u8 128), .lit (.int .u8 159)], .agg [.lit (.int .u8 144), .lit (.int .u8 191)], .agg [.lit (.int .u8 128), .lit (.int .u8 143)], .agg [.lit (.int .u8 0), .lit (.int .u8 0)], .agg [.lit (.int .u8 0), .lit (.int .u8 0)], .agg [.lit (.int .u8 0), .lit (.int .u8 0)], .agg [.lit (.int .u8 0), .lit (.int .u8 0)], .agg [.lit (.int .u8 0), .lit (.int .u8 0)], .agg [.lit (.int .u8 0), .lit (.int .u8 0)], .agg [.lit (.int .u8 0), .lit (.int .u8 0)], .agg [.lit (.int .u8 0), .lit (.int .u8 0)], .agg [.lit (.int .u8 0), .lit (.int .u8 0)], .agg [.lit (.int .u8 0), .lit (.int .u8 0)], .agg [.lit (.int .u8 0), .lit (.int .u8 0)]]
/-- One of Go's own tables, pinned by name: the form's constant. -/
def laid_unicode_utf8_first : DataW Unit := Go.Pinned.utf8First
def laid_math_bits_deBruijn32tab {H : Type} : DataW H := .agg [.lit (.int .u8 0), .lit (.int .u8 1), .lit (.int .u8 28), .lit (.int .u8 2), .lit (.int .u8 29), .lit (.int .u8 14), .lit (.int .u8 24), .lit (.int .u8 3), .lit (.int .u8 30), .lit (.int .u8 22), .lit (.int .u8 20), .lit (.int .u8 15), .lit (.int .u8 25), .lit (.int .u8 17), .lit (.int .u8 4), .lit (.int .u8 8), .lit (.int .u8 31), .lit (.int .u8 27), .lit (.int .u8 13), .lit (.int .u8 23), .lit (.int .u8 21), .lit (.int .u8 19), .lit (.int .u8 16), .lit (.int .u8 7), .lit (.int .u8 26), .lit (.int .u8 12), .lit (.int .u8 18), .lit (.int .u8 6), .lit (.int .u8 11), .lit (.int .u8 5), .lit (.int .u8 10), .lit (.int .u8 9)]
def laid_math_bits_deBruijn64tab {H : Type} : DataW H := .agg [.lit (.int .u8 0), .lit (.int .u8 1), .lit (.int .u8 56), .lit (.int .u8 2), .lit (.int .u8 57), .lit (.int .u8 49), .lit (.int .u8 28), .lit (.int .u8 3), .lit (.int .u8 61), .lit (.int .u8 58), .lit (.int .u8 42), .lit (.int .u8 50), .lit (.int .u8 38), .lit (.int .u8 29), .lit (.int .u8 17), .lit (.int .u8 4), .lit (.int .u8 62), .lit (.int .u8 47), .lit (.int .u8 59), .lit (.int .u8 36), .lit (.int .u8 45), .lit (.int .u8 43), .lit (.int .u8 51), .lit (.int .u8 22), .lit (.int .u8 53), .lit (.int .u8 39), .lit (.int .u8 33), .lit (.int .u8 30), .lit (.int .u8 24), .lit (.int .u8 18), .lit (.int .u8 12), .lit (.int .u8 5), .lit (.int .u8 63), .lit (.int .u8 55), .lit (.int .u8 48), .lit (.int .u8 27), .lit (.int .u8 60), .lit (.int .u8 41), .lit (.int .u8 37), .lit (.int .u8 16), .lit (.int .u8 46), .lit (.int .u8 35), .lit (.int .u8 44), .lit (.int .u8 21), .lit (.int .u8 52), .lit (.int .u8 32), .lit (.int .u8 23), .lit (.int .u8 11), .lit (.int .u8 54), .lit (.int .u8 26), .lit (.int .u8 40), .lit (.int .u8 15), .lit (.int .u8 34), .lit (.int .u8 20), .lit (.int .u8 31), .lit (.int .u8 10), .lit (.int .u8 25), .lit (.int .u8 14), .lit (.int .u8 19), .lit (.int .u8 9), .lit (.int .u8 13), .lit (.int .u8 8), .lit (.int .u8 7), .lit (.int .u8 6)]
def laid_internal_strconv_uint64pow10 {H : Type} : DataW H := .agg [.lit (.int .u64 1), .lit (.int .u64 10), .lit (.int .u64 100), .lit (.int .u64 1000), .lit (.int .u64 10000), .lit (.int .u64 100000), .lit (.int .u64 1000000), .lit (.int .u64 10000000), .lit (.int .u64 100000000), .lit (.int .u64 1000000000), .lit (.int .u64 10000000000), .lit (.int .u64 100000000000), .lit (.int .u64 1000000000000), .lit (.int .u64 10000000000000), .lit (.int .u64 100000000000000), .lit (.int .u64 1000000000000000), .lit (.int .u64 10000000000000000), .lit (.int .u64 100000000000000000), .lit (.int .u64 1000000000000000000), .lit (.int .u64 10000000000000000000)]

/-- 'laws.FnExactPackBits': WHATEVER THE INPUT: true; the input reads as it did. -/
def fnExactPackBitsSpec : ChangeSpec := { name := "fnExactPackBits", fn := fun _ => fun
  | [d] => { results := [.lit (.bool true)], args := [d] }
  | _ => none }
def fnExactPackBitsRow : OpenClaim := { program := "ytfplammpeghinaadoor", sum := "72a9169c395692651ecb30ff884773c91bd3e09ffd2e237399f7ddba236ce8ff", func := "loop.example/g00294/laws.FnExactPackBits", spec := "fnExactPackBits", inPlace := ["internal/bytealg.IndexByteString", "internal/bytealg.IndexString"], named := ["unicode/utf8.first", "unicode/utf8.acceptRanges", "internal/bytealg.MaxLen"], apart := false, laid := [("unicode/utf8.acceptRanges", laid_unicode_utf8_acceptRanges), ("unicode/utf8.first", laid_unicode_utf8_first)] }
def FnExactPackBitsSaid : Prop := fnExactPackBitsRow.holds Tryd.pinned (OpenSpec.ofChange fnExactPackBitsSpec)

/-- ITS FALSE NEIGHBOUR: 'it returns false'. Refute it at one input. -/
def fnExactPackBitsWrong : ChangeSpec := { name := "fnExactPackBits", fn := fun _ => fun
  | [d] => { results := [.lit (.bool false)], args := [d] }
  | _ => none }
def FnExactPackBitsWrongFalsely : Prop := fnExactPackBitsRow.holds Tryd.pinned (OpenSpec.ofChange fnExactPackBitsWrong)

/-- 'laws.FnExactPlaceOf': WHATEVER THE INPUT: true; the input reads as it did. -/
def fnExactPlaceOfSpec : ChangeSpec := { name := "fnExactPlaceOf", fn := fun _ => fun
  | [d1, d2, d3] => { results := [.lit (.bool true)], args := [d1, d2, d3] }
  | _ => none }
def fnExactPlaceOfRow : OpenClaim := { program := "ytfplammpeghinaadoor", sum := "72a9169c395692651ecb30ff884773c91bd3e09ffd2e237399f7ddba236ce8ff", func := "loop.example/g00294/laws.FnExactPlaceOf", spec := "fnExactPlaceOf", inPlace := ["internal/bytealg.IndexByteString", "internal/bytealg.IndexString"], named := ["unicode/utf8.first", "unicode/utf8.acceptRanges", "internal/bytealg.MaxLen"], apart := false, laid := [("unicode/utf8.acceptRanges", laid_unicode_utf8_acceptRanges), ("unicode/utf8.first", laid_unicode_utf8_first)] }
def FnExactPlaceOfSaid : Prop := fnExactPlaceOfRow.holds Tryd.pinned (OpenSpec.ofChange fnExactPlaceOfSpec)

/-- ITS FALSE NEIGHBOUR: 'it returns false'. Refute it at one input. -/
def fnExactPlaceOfWrong : ChangeSpec := { name := "fnExactPlaceOf", fn := fun _ => fun
  | [d1, d2, d3] => { results := [.lit (.bool false)], args := [d1, d2, d3] }
  | _ => none }
def FnExactPlaceOfWrongFalsely : Prop := fnExactPlaceOfRow.holds Tryd.pinned (OpenSpec.ofChange fnExactPlaceOfWrong)

/-- 'laws.FnExactTakeDelta': WHATEVER THE INPUT: true; the input reads as it did. -/
def fnExactTakeDeltaSpec : ChangeSpec := { name := "fnExactTakeDelta", fn := fun _ => fun
  | [d] => { results := [.lit (.bool true)], args := [d] }
  | _ => none }
def fnExactTakeDeltaRow : OpenClaim := { program := "ytfplammpeghinaadoor", sum := "72a9169c395692651ecb30ff884773c91bd3e09ffd2e237399f7ddba236ce8ff", func := "loop.example/g00294/laws.FnExactTakeDelta", spec := "fnExactTakeDelta", inPlace := ["internal/abi.NoEscape", "internal/bytealg.MakeNoZero"], named := ["internal/strconv.uint64pow10", "math/bits.deBruijn32tab", "math/bits.deBruijn64tab"], apart := false, laid := [("math/bits.deBruijn32tab", laid_math_bits_deBruijn32tab), ("math/bits.deBruijn64tab", laid_math_bits_deBruijn64tab), ("internal/strconv.uint64pow10", laid_internal_strconv_uint64pow10)] }
def FnExactTakeDeltaSaid : Prop := fnExactTakeDeltaRow.holds Tryd.pinned (OpenSpec.ofChange fnExactTakeDeltaSpec)

/-- ITS FALSE NEIGHBOUR: 'it returns false'. Refute it at one input. -/
def fnExactTakeDeltaWrong : ChangeSpec := { name := "fnExactTakeDelta", fn := fun _ => fun
  | [d] => { results := [.lit (.bool false)], args := [d] }
  | _ => none }
def FnExactTakeDeltaWrongFalsely : Prop := fnExactTakeDeltaRow.holds Tryd.pinned (OpenSpec.ofChange fnExactTakeDeltaWrong)

/-- 'laws.FnExactTakeRice': WHATEVER THE INPUT: true; the input reads as it did. -/
def fnExactTakeRiceSpec : ChangeSpec := { name := "fnExactTakeRice", fn := fun _ => fun
  | [d1, d2] => { results := [.lit (.bool true)], args := [d1, d2] }
  | _ => none }
def fnExactTakeRiceRow : OpenClaim := { program := "ytfplammpeghinaadoor", sum := "72a9169c395692651ecb30ff884773c91bd3e09ffd2e237399f7ddba236ce8ff", func := "loop.example/g00294/laws.FnExactTakeRice", spec := "fnExactTakeRice", inPlace := ["internal/abi.NoEscape", "internal/bytealg.MakeNoZero"], named := ["internal/strconv.uint64pow10", "math/bits.deBruijn32tab", "math/bits.deBruijn64tab"], apart := false, laid := [("math/bits.deBruijn32tab", laid_math_bits_deBruijn32tab), ("math/bits.deBruijn64tab", laid_math_bits_deBruijn64tab), ("internal/strconv.uint64pow10", laid_internal_strconv_uint64pow10)] }
def FnExactTakeRiceSaid : Prop := fnExactTakeRiceRow.holds Tryd.pinned (OpenSpec.ofChange fnExactTakeRiceSpec)

/-- ITS FALSE NEIGHBOUR: 'it returns false'. Refute it at one input. -/
def fnExactTakeRiceWrong : ChangeSpec := { name := "fnExactTakeRice", fn := fun _ => fun
  | [d1, d2] => { results := [.lit (.bool false)], args := [d1, d2] }
  | _ => none }
def FnExactTakeRiceWrongFalsely : Prop := fnExactTakeRiceRow.holds Tryd.pinned (OpenSpec.ofChange fnExactTakeRiceWrong)

/-- 'laws.FnExactEncodeList': WHATEVER THE INPUT: true; the input reads as it did. -/
def fnExactEncodeListSpec : ChangeSpec := { name := "fnExactEncodeList", fn := fun _ => fun
  | [d1, d2] => { results := [.lit (.bool true)], args := [d1, d2] }
  | _ => none }
def fnExactEncodeListRow : OpenClaim := { program := "ytfplammpeghinaadoor", sum := "72a9169c395692651ecb30ff884773c91bd3e09ffd2e237399f7ddba236ce8ff", func := "loop.example/g00294/laws.FnExactEncodeList", spec := "fnExactEncodeList", inPlace := ["internal/abi.NoEscape", "internal/bytealg.MakeNoZero"], recurses := true, named := ["internal/strconv.uint64pow10", "math/bits.deBruijn32tab", "math/bits.deBruijn64tab"], apart := false, laid := [("math/bits.deBruijn32tab", laid_math_bits_deBruijn32tab), ("math/bits.deBruijn64tab", laid_math_bits_deBruijn64tab), ("internal/strconv.uint64pow10", laid_internal_strconv_uint64pow10)] }
def FnExactEncodeListSaid : Prop := fnExactEncodeListRow.holds Tryd.pinned (OpenSpec.ofChange fnExactEncodeListSpec)

/-- ITS FALSE NEIGHBOUR: 'it returns false'. Refute it at one input. -/
def fnExactEncodeListWrong : ChangeSpec := { name := "fnExactEncodeList", fn := fun _ => fun
  | [d1, d2] => { results := [.lit (.bool false)], args := [d1, d2] }
  | _ => none }
def FnExactEncodeListWrongFalsely : Prop := fnExactEncodeListRow.holds Tryd.pinned (OpenSpec.ofChange fnExactEncodeListWrong)

/-- 'laws.FnExactDecodeList': WHATEVER THE INPUT: true; the input reads as it did. -/
def fnExactDecodeListSpec : ChangeSpec := { name := "fnExactDecodeList", fn := fun _ => fun
  | [d1, d2] => { results := [.lit (.bool true)], args := [d1, d2] }
  | _ => none }
def fnExactDecodeListRow : OpenClaim := { program := "ytfplammpeghinaadoor", sum := "72a9169c395692651ecb30ff884773c91bd3e09ffd2e237399f7ddba236ce8ff", func := "loop.example/g00294/laws.FnExactDecodeList", spec := "fnExactDecodeList", inPlace := ["internal/abi.NoEscape", "internal/bytealg.MakeNoZero", "internal/bytealg.IndexByteString", "internal/bytealg.IndexString"], named := ["internal/strconv.uint64pow10", "math/bits.deBruijn32tab", "math/bits.deBruijn64tab", "internal/bytealg.MaxLen"], apart := false, laid := [("math/bits.deBruijn32tab", laid_math_bits_deBruijn32tab), ("math/bits.deBruijn64tab", laid_math_bits_deBruijn64tab), ("internal/strconv.uint64pow10", laid_internal_strconv_uint64pow10)] }
def FnExactDecodeListSaid : Prop := fnExactDecodeListRow.holds Tryd.pinned (OpenSpec.ofChange fnExactDecodeListSpec)

/-- ITS FALSE NEIGHBOUR: 'it returns false'. Refute it at one input. -/
def fnExactDecodeListWrong : ChangeSpec := { name := "fnExactDecodeList", fn := fun _ => fun
  | [d1, d2] => { results := [.lit (.bool false)], args := [d1, d2] }
  | _ => none }
def FnExactDecodeListWrongFalsely : Prop := fnExactDecodeListRow.holds Tryd.pinned (OpenSpec.ofChange fnExactDecodeListWrong)

/-- 'laws.FnExactFrameBy': WHATEVER THE INPUT: true; the input reads as it did. -/
def fnExactFrameBySpec : ChangeSpec := { name := "fnExactFrameBy", fn := fun _ => fun
  | [d1, d2] => { results := [.lit (.bool true)], args := [d1, d2] }
  | _ => none }
def fnExactFrameByRow : OpenClaim := { program := "ytfplammpeghinaadoor", sum := "72a9169c395692651ecb30ff884773c91bd3e09ffd2e237399f7ddba236ce8ff", func := "loop.example/g00294/laws.FnExactFrameBy", spec := "fnExactFrameBy", inPlace := ["internal/bytealg.abigen_runtime_cmpstring", "internal/abi.NoEscape", "internal/bytealg.MakeNoZero"], unfollowed := true, recurses := true, named := ["internal/strconv.uint64pow10", "math/bits.deBruijn32tab", "math/bits.deBruijn64tab"], apart := false, laid := [("math/bits.deBruijn32tab", laid_math_bits_deBruijn32tab), ("math/bits.deBruijn64tab", laid_math_bits_deBruijn64tab), ("internal/strconv.uint64pow10", laid_internal_strconv_uint64pow10)] }
def FnExactFrameBySaid : Prop := fnExactFrameByRow.holds Tryd.pinned (OpenSpec.ofChange fnExactFrameBySpec)

/-- ITS FALSE NEIGHBOUR: 'it returns false'. Refute it at one input. -/
def fnExactFrameByWrong : ChangeSpec := { name := "fnExactFrameBy", fn := fun _ => fun
  | [d1, d2] => { results := [.lit (.bool false)], args := [d1, d2] }
  | _ => none }
def FnExactFrameByWrongFalsely : Prop := fnExactFrameByRow.holds Tryd.pinned (OpenSpec.ofChange fnExactFrameByWrong)

/-- 'laws.FnExactBestFrame': WHATEVER THE INPUT: true; the input reads as it did. -/
def fnExactBestFrameSpec : ChangeSpec := { name := "fnExactBestFrame", fn := fun _ => fun
  | [d] => { results := [.lit (.bool true)], args := [d] }
  | _ => none }
def fnExactBestFrameRow : OpenClaim := { program := "ytfplammpeghinaadoor", sum := "72a9169c395692651ecb30ff884773c91bd3e09ffd2e237399f7ddba236ce8ff", func := "loop.example/g00294/laws.FnExactBestFrame", spec := "fnExactBestFrame", inPlace := ["internal/bytealg.abigen_runtime_cmpstring", "internal/abi.NoEscape", "internal/bytealg.MakeNoZero"], unfollowed := true, recurses := true, named := ["internal/strconv.uint64pow10", "math/bits.deBruijn32tab", "math/bits.deBruijn64tab"], apart := false, laid := [("math/bits.deBruijn32tab", laid_math_bits_deBruijn32tab), ("math/bits.deBruijn64tab", laid_math_bits_deBruijn64tab), ("internal/strconv.uint64pow10", laid_internal_strconv_uint64pow10)] }
def FnExactBestFrameSaid : Prop := fnExactBestFrameRow.holds Tryd.pinned (OpenSpec.ofChange fnExactBestFrameSpec)

/-- ITS FALSE NEIGHBOUR: 'it returns false'. Refute it at one input. -/
def fnExactBestFrameWrong : ChangeSpec := { name := "fnExactBestFrame", fn := fun _ => fun
  | [d] => { results := [.lit (.bool false)], args := [d] }
  | _ => none }
def FnExactBestFrameWrongFalsely : Prop := fnExactBestFrameRow.holds Tryd.pinned (OpenSpec.ofChange fnExactBestFrameWrong)

/- THE SECOND FORM. 'bulk': how many values and letters a reading holds, each counted each time it is reached (what is shared counts as often as it is met; a slice's spare places count too). A statement '..UptoSaid' is the law's where the arguments, and the package variables that the reading takes, are together of bulk at most 1048576: NARROWER than '..Said'. Prove '..Said' where nothing that the law and all that it calls make is longer than what came in: it says more and counts as full. Else prove '..UptoSaid'. A law counts once. -/
mutual
def uptoBulk {H : Type} : DataW H → Nat
  | .lit (.string bytes) => bytes.length + 1
  | .lit _ => 1
  | .nil => 1
  | .ptr d => uptoBulk d + 1
  | .slice elems spare => uptoBulkAll elems + uptoBulkAll spare + 1
  | .agg parts => uptoBulkAll parts + 1
  | .iface _ d => uptoBulk d + 1
  | .map entries => uptoBulkEntries entries + 1
  | .held _ => 1
def uptoBulkAll {H : Type} : List (DataW H) → Nat
  | [] => 0
  | d :: r => uptoBulk d + uptoBulkAll r
def uptoBulkEntries {H : Type} : List (Lit × DataW H) → Nat
  | [] => 0
  | x :: r => uptoBulkEntry x + uptoBulkEntries r
def uptoBulkEntry {H : Type} : Lit × DataW H → Nat
  | (.string bytes, d) => bytes.length + uptoBulk d + 1
  | (_, d) => uptoBulk d + 1
 end
def uptoSmall : (H : Type) → List (DataW H) → Bool := fun _ ds => decide (uptoBulkAll ds ≤ 1048576)
def OpenSpec.upto (s : _root_.Go.ChangeSpec) : _root_.Go.OpenSpec := { _root_.Go.OpenSpec.ofChange s with cond := some uptoSmall }

/-- 'laws.FnExactPackBits', WHERE WHAT IT READS IS OF BULK AT MOST 1048576: true; the input reads as it did. -/
def fnExactPackBitsUptoRow : OpenClaim := { program := "ytfplammpeghinaadoor", sum := "72a9169c395692651ecb30ff884773c91bd3e09ffd2e237399f7ddba236ce8ff", func := "loop.example/g00294/laws.FnExactPackBits", spec := "fnExactPackBits", inPlace := ["internal/bytealg.IndexByteString", "internal/bytealg.IndexString"], named := ["unicode/utf8.first", "unicode/utf8.acceptRanges", "internal/bytealg.MaxLen"], apart := false, laid := [("unicode/utf8.acceptRanges", laid_unicode_utf8_acceptRanges), ("unicode/utf8.first", laid_unicode_utf8_first)], narrowed := true }
def FnExactPackBitsUptoSaid : Prop := fnExactPackBitsUptoRow.holds Tryd.pinned (OpenSpec.upto fnExactPackBitsSpec)

/-- 'laws.FnExactPlaceOf', WHERE WHAT IT READS IS OF BULK AT MOST 1048576: true; the input reads as it did. -/
def fnExactPlaceOfUptoRow : OpenClaim := { program := "ytfplammpeghinaadoor", sum := "72a9169c395692651ecb30ff884773c91bd3e09ffd2e237399f7ddba236ce8ff", func := "loop.example/g00294/laws.FnExactPlaceOf", spec := "fnExactPlaceOf", inPlace := ["internal/bytealg.IndexByteString", "internal/bytealg.IndexString"], named := ["unicode/utf8.first", "unicode/utf8.acceptRanges", "internal/bytealg.MaxLen"], apart := false, laid := [("unicode/utf8.acceptRanges", laid_unicode_utf8_acceptRanges), ("unicode/utf8.first", laid_unicode_utf8_first)], narrowed := true }
def FnExactPlaceOfUptoSaid : Prop := fnExactPlaceOfUptoRow.holds Tryd.pinned (OpenSpec.upto fnExactPlaceOfSpec)

/-- 'laws.FnExactTakeDelta', WHERE WHAT IT READS IS OF BULK AT MOST 1048576: true; the input reads as it did. -/
def fnExactTakeDeltaUptoRow : OpenClaim := { program := "ytfplammpeghinaadoor", sum := "72a9169c395692651ecb30ff884773c91bd3e09ffd2e237399f7ddba236ce8ff", func := "loop.example/g00294/laws.FnExactTakeDelta", spec := "fnExactTakeDelta", inPlace := ["internal/abi.NoEscape", "internal/bytealg.MakeNoZero"], named := ["internal/strconv.uint64pow10", "math/bits.deBruijn32tab", "math/bits.deBruijn64tab"], apart := false, laid := [("math/bits.deBruijn32tab", laid_math_bits_deBruijn32tab), ("math/bits.deBruijn64tab", laid_math_bits_deBruijn64tab), ("internal/strconv.uint64pow10", laid_internal_strconv_uint64pow10)], narrowed := true }
def FnExactTakeDeltaUptoSaid : Prop := fnExactTakeDeltaUptoRow.holds Tryd.pinned (OpenSpec.upto fnExactTakeDeltaSpec)

/-- 'laws.FnExactTakeRice', WHERE WHAT IT READS IS OF BULK AT MOST 1048576: true; the input reads as it did. -/
def fnExactTakeRiceUptoRow : OpenClaim := { program := "ytfplammpeghinaadoor", sum := "72a9169c395692651ecb30ff884773c91bd3e09ffd2e237399f7ddba236ce8ff", func := "loop.example/g00294/laws.FnExactTakeRice", spec := "fnExactTakeRice", inPlace := ["internal/abi.NoEscape", "internal/bytealg.MakeNoZero"], named := ["internal/strconv.uint64pow10", "math/bits.deBruijn32tab", "math/bits.deBruijn64tab"], apart := false, laid := [("math/bits.deBruijn32tab", laid_math_bits_deBruijn32tab), ("math/bits.deBruijn64tab", laid_math_bits_deBruijn64tab), ("internal/strconv.uint64pow10", laid_internal_strconv_uint64pow10)], narrowed := true }
def FnExactTakeRiceUptoSaid : Prop := fnExactTakeRiceUptoRow.holds Tryd.pinned (OpenSpec.upto fnExactTakeRiceSpec)

/-- 'laws.FnExactEncodeList', WHERE WHAT IT READS IS OF BULK AT MOST 1048576: true; the input reads as it did. -/
def fnExactEncodeListUptoRow : OpenClaim := { program := "ytfplammpeghinaadoor", sum := "72a9169c395692651ecb30ff884773c91bd3e09ffd2e237399f7ddba236ce8ff", func := "loop.example/g00294/laws.FnExactEncodeList", spec := "fnExactEncodeList", inPlace := ["internal/abi.NoEscape", "internal/bytealg.MakeNoZero"], recurses := true, named := ["internal/strconv.uint64pow10", "math/bits.deBruijn32tab", "math/bits.deBruijn64tab"], apart := false, laid := [("math/bits.deBruijn32tab", laid_math_bits_deBruijn32tab), ("math/bits.deBruijn64tab", laid_math_bits_deBruijn64tab), ("internal/strconv.uint64pow10", laid_internal_strconv_uint64pow10)], narrowed := true }
def FnExactEncodeListUptoSaid : Prop := fnExactEncodeListUptoRow.holds Tryd.pinned (OpenSpec.upto fnExactEncodeListSpec)

/-- 'laws.FnExactDecodeList', WHERE WHAT IT READS IS OF BULK AT MOST 1048576: true; the input reads as it did. -/
def fnExactDecodeListUptoRow : OpenClaim := { program := "ytfplammpeghinaadoor", sum := "72a9169c395692651ecb30ff884773c91bd3e09ffd2e237399f7ddba236ce8ff", func := "loop.example/g00294/laws.FnExactDecodeList", spec := "fnExactDecodeList", inPlace := ["internal/abi.NoEscape", "internal/bytealg.MakeNoZero", "internal/bytealg.IndexByteString", "internal/bytealg.IndexString"], named := ["internal/strconv.uint64pow10", "math/bits.deBruijn32tab", "math/bits.deBruijn64tab", "internal/bytealg.MaxLen"], apart := false, laid := [("math/bits.deBruijn32tab", laid_math_bits_deBruijn32tab), ("math/bits.deBruijn64tab", laid_math_bits_deBruijn64tab), ("internal/strconv.uint64pow10", laid_internal_strconv_uint64pow10)], narrowed := true }
def FnExactDecodeListUptoSaid : Prop := fnExactDecodeListUptoRow.holds Tryd.pinned (OpenSpec.upto fnExactDecodeListSpec)

/-- 'laws.FnExactFrameBy', WHERE WHAT IT READS IS OF BULK AT MOST 1048576: true; the input reads as it did. -/
def fnExactFrameByUptoRow : OpenClaim := { program := "ytfplammpeghinaadoor", sum := "72a9169c395692651ecb30ff884773c91bd3e09ffd2e237399f7ddba236ce8ff", func := "loop.example/g00294/laws.FnExactFrameBy", spec := "fnExactFrameBy", inPlace := ["internal/bytealg.abigen_runtime_cmpstring", "internal/abi.NoEscape", "internal/bytealg.MakeNoZero"], unfollowed := true, recurses := true, named := ["internal/strconv.uint64pow10", "math/bits.deBruijn32tab", "math/bits.deBruijn64tab"], apart := false, laid := [("math/bits.deBruijn32tab", laid_math_bits_deBruijn32tab), ("math/bits.deBruijn64tab", laid_math_bits_deBruijn64tab), ("internal/strconv.uint64pow10", laid_internal_strconv_uint64pow10)], narrowed := true }
def FnExactFrameByUptoSaid : Prop := fnExactFrameByUptoRow.holds Tryd.pinned (OpenSpec.upto fnExactFrameBySpec)

/-- 'laws.FnExactBestFrame', WHERE WHAT IT READS IS OF BULK AT MOST 1048576: true; the input reads as it did. -/
def fnExactBestFrameUptoRow : OpenClaim := { program := "ytfplammpeghinaadoor", sum := "72a9169c395692651ecb30ff884773c91bd3e09ffd2e237399f7ddba236ce8ff", func := "loop.example/g00294/laws.FnExactBestFrame", spec := "fnExactBestFrame", inPlace := ["internal/bytealg.abigen_runtime_cmpstring", "internal/abi.NoEscape", "internal/bytealg.MakeNoZero"], unfollowed := true, recurses := true, named := ["internal/strconv.uint64pow10", "math/bits.deBruijn32tab", "math/bits.deBruijn64tab"], apart := false, laid := [("math/bits.deBruijn32tab", laid_math_bits_deBruijn32tab), ("math/bits.deBruijn64tab", laid_math_bits_deBruijn64tab), ("internal/strconv.uint64pow10", laid_internal_strconv_uint64pow10)], narrowed := true }
def FnExactBestFrameUptoSaid : Prop := fnExactBestFrameUptoRow.holds Tryd.pinned (OpenSpec.upto fnExactBestFrameSpec)

end Rows
end Go.Proofs.YtfplammpeghinaaDoor
