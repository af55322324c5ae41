/-
  NARROWER THAN 'FOR EVERY INPUT', by the rows' own cells (each row's printed sentence says how): FnExactGoodCluster: laid · FnExactFailNode: laid · FnExactSpoilCell: laid · FnExactDelObject: laid · FnExactLostOf: laid.
  DERIVED. THE GIVEN ROWS OF THIS SEAT. 5 by the template 'for every input the law returns true; each argument reads behind the call as it read before'; 0 by the template 'total and deterministic' (their statements: YtdpaijnbikclgaaDoorTotals.lean).
  GIVEN WITH THE SEED: the statements are not yours to turn. If you find one false, say at which input.
  Laid BY PROGRAM, IN A SANDBOX (cutbox-rows.mjs): the forced cells as the released guide's own fill.sh prints them over the translation 96f03884443b6e12… (all of the seat's roots in one cut). By AI agents, Wed Nov 11 2026. No macro, syntax, notation, axiom, sorry.
-/
import Derived.Test.YtdpaijnbikclgaaDoorChecked
import GoSem.PinnedTables
import GoSem.Claim
import GoSem.ClaimJoined
import GoSem.ClaimMapViews
import Derived.JoinedTies
import Derived.KernelRfl
namespace Go.Proofs.YtdpaijnbikclgaaDoor
/- THE CELL 'sum', in the pinned program and in every row, IS THE sha256 OF THE DUMP (.gsa) THAT YtdpaijnbikclgaaDoorProg.lean LOADS. Nothing in Lean hashes anything: it is a label: what it is worth is what the hold of that sum in a sandbox is worth. -/
noncomputable def Tryd.pinned : Pinned := { name := "ytdpaijnbikclgaadoor", sum := "96f03884443b6e12931031cabcf3068ae5be812dab0adeca707e68d18af786fe", checked := Tryd.checked }
namespace Rows
def none {H : Type} : Left H := { results := [], args := [] }

/- WHAT THE LISTED PACKAGE-LEVEL VARIABLES READ AS WHEN THE CALL BEGINS. Each datum BY PROGRAM (the guide's laid-datum.mjs) off the statement by which the dump's own 'gosem.cut.vars' lays the variable. In a bare row this is a premise. The card (YtdpaijnbikclgaaDoorCards.lean) ties it to the program's text. -/
def laid_unicode_utf8_acceptRanges {H : Type} : DataW H := .agg [.agg [.lit (.int .u8 128), .lit (.int .u8 191)], .agg [.lit (.int .u8 160), .lit (.int .u8 191)], .agg [.lit (.int .u8 128), .lit (.int .u8 159)], .agg [.lit (.int .u8 144), .lit (.int .u8 191)], .agg [.lit (.int .u8 128), .lit (.int .u8 143)], .agg [.lit (.int .u8 0), .lit (.int .u8 0)], .agg [.lit (.int .u8 0), .lit (.int .u8 0)], .agg [.lit (.int .u8 0), .lit (.int .u8 0)], .agg [.lit (.int .u8 0), .lit (.int .u8 0)], .agg [.lit (.int .u8 0), .lit (.int .u8 0)], .agg [.lit (.int .u8 0), .lit (.int .u8 0)], .agg [.lit (.int .u8 0), .lit (.int .u8 0)], .agg [.lit (.int .u8 0), .lit (.int .u8 0)], .agg [.lit (.int .u8 0), .lit (.int .u8 0)], .agg [.lit (.int .u8 0), .lit (.int .u8 0)], .agg [.lit (.int .u8 0), .lit (.int .u8 0)]]
/-- One of Go's own tables, pinned by name: the form's constant. -/
def laid_unicode_utf8_first : DataW Unit := Go.Pinned.utf8First

/-- 'laws.FnExactGoodCluster': WHATEVER THE INPUT: true; the input reads as it did. -/
def fnExactGoodClusterSpec : ChangeSpec := { name := "fnExactGoodCluster", fn := fun _ => fun
  | [d] => { results := [.lit (.bool true)], args := [d] }
  | _ => none }
def fnExactGoodClusterRow : OpenClaim := { program := "ytdpaijnbikclgaadoor", sum := "96f03884443b6e12931031cabcf3068ae5be812dab0adeca707e68d18af786fe", func := "loop.example/g00294/laws.FnExactGoodCluster", spec := "fnExactGoodCluster", inPlace := ["internal/bytealg.IndexByteString", "internal/bytealg.IndexString", "internal/bytealg.abigen_runtime_cmpstring"], unfollowed := true, recurses := true, named := ["unicode/utf8.first", "unicode/utf8.acceptRanges", "internal/bytealg.MaxLen"], apart := false, laid := [("unicode/utf8.acceptRanges", laid_unicode_utf8_acceptRanges), ("unicode/utf8.first", laid_unicode_utf8_first)] }
def FnExactGoodClusterSaid : Prop := fnExactGoodClusterRow.holds Tryd.pinned (OpenSpec.ofChange fnExactGoodClusterSpec)

/-- ITS FALSE NEIGHBOUR: 'it returns false'. Refute it at one input. -/
def fnExactGoodClusterWrong : ChangeSpec := { name := "fnExactGoodCluster", fn := fun _ => fun
  | [d] => { results := [.lit (.bool false)], args := [d] }
  | _ => none }
def FnExactGoodClusterWrongFalsely : Prop := fnExactGoodClusterRow.holds Tryd.pinned (OpenSpec.ofChange fnExactGoodClusterWrong)

/-- 'laws.FnExactFailNode': WHATEVER THE INPUT: true; the input reads as it did. -/
def fnExactFailNodeSpec : ChangeSpec := { name := "fnExactFailNode", fn := fun _ => fun
  | [d1, d2] => { results := [.lit (.bool true)], args := [d1, d2] }
  | _ => none }
def fnExactFailNodeRow : OpenClaim := { program := "ytdpaijnbikclgaadoor", sum := "96f03884443b6e12931031cabcf3068ae5be812dab0adeca707e68d18af786fe", func := "loop.example/g00294/laws.FnExactFailNode", spec := "fnExactFailNode", inPlace := ["internal/bytealg.IndexByteString", "internal/bytealg.IndexString", "internal/bytealg.abigen_runtime_cmpstring"], unfollowed := true, recurses := true, named := ["unicode/utf8.first", "unicode/utf8.acceptRanges", "internal/bytealg.MaxLen"], apart := false, laid := [("unicode/utf8.acceptRanges", laid_unicode_utf8_acceptRanges), ("unicode/utf8.first", laid_unicode_utf8_first)] }
def FnExactFailNodeSaid : Prop := fnExactFailNodeRow.holds Tryd.pinned (OpenSpec.ofChange fnExactFailNodeSpec)

/-- ITS FALSE NEIGHBOUR: 'it returns false'. Refute it at one input. -/
def fnExactFailNodeWrong : ChangeSpec := { name := "fnExactFailNode", fn := fun _ => fun
  | [d1, d2] => { results := [.lit (.bool false)], args := [d1, d2] }
  | _ => none }
def FnExactFailNodeWrongFalsely : Prop := fnExactFailNodeRow.holds Tryd.pinned (OpenSpec.ofChange fnExactFailNodeWrong)

/-- 'laws.FnExactSpoilCell': WHATEVER THE INPUT: true; the input reads as it did. -/
def fnExactSpoilCellSpec : ChangeSpec := { name := "fnExactSpoilCell", fn := fun _ => fun
  | [d1, d2, d3] => { results := [.lit (.bool true)], args := [d1, d2, d3] }
  | _ => none }
def fnExactSpoilCellRow : OpenClaim := { program := "ytdpaijnbikclgaadoor", sum := "96f03884443b6e12931031cabcf3068ae5be812dab0adeca707e68d18af786fe", func := "loop.example/g00294/laws.FnExactSpoilCell", spec := "fnExactSpoilCell", inPlace := ["internal/bytealg.IndexByteString", "internal/bytealg.IndexString", "internal/bytealg.abigen_runtime_cmpstring"], unfollowed := true, recurses := true, named := ["unicode/utf8.first", "unicode/utf8.acceptRanges", "internal/bytealg.MaxLen"], apart := false, laid := [("unicode/utf8.acceptRanges", laid_unicode_utf8_acceptRanges), ("unicode/utf8.first", laid_unicode_utf8_first)] }
def FnExactSpoilCellSaid : Prop := fnExactSpoilCellRow.holds Tryd.pinned (OpenSpec.ofChange fnExactSpoilCellSpec)

/-- ITS FALSE NEIGHBOUR: 'it returns false'. Refute it at one input. -/
def fnExactSpoilCellWrong : ChangeSpec := { name := "fnExactSpoilCell", fn := fun _ => fun
  | [d1, d2, d3] => { results := [.lit (.bool false)], args := [d1, d2, d3] }
  | _ => none }
def FnExactSpoilCellWrongFalsely : Prop := fnExactSpoilCellRow.holds Tryd.pinned (OpenSpec.ofChange fnExactSpoilCellWrong)

/-- 'laws.FnExactDelObject': WHATEVER THE INPUT: true; the input reads as it did. -/
def fnExactDelObjectSpec : ChangeSpec := { name := "fnExactDelObject", fn := fun _ => fun
  | [d1, d2] => { results := [.lit (.bool true)], args := [d1, d2] }
  | _ => none }
def fnExactDelObjectRow : OpenClaim := { program := "ytdpaijnbikclgaadoor", sum := "96f03884443b6e12931031cabcf3068ae5be812dab0adeca707e68d18af786fe", func := "loop.example/g00294/laws.FnExactDelObject", spec := "fnExactDelObject", inPlace := ["internal/bytealg.IndexByteString", "internal/bytealg.IndexString", "internal/bytealg.abigen_runtime_cmpstring"], unfollowed := true, recurses := true, named := ["unicode/utf8.first", "unicode/utf8.acceptRanges", "internal/bytealg.MaxLen"], apart := false, laid := [("unicode/utf8.acceptRanges", laid_unicode_utf8_acceptRanges), ("unicode/utf8.first", laid_unicode_utf8_first)] }
def FnExactDelObjectSaid : Prop := fnExactDelObjectRow.holds Tryd.pinned (OpenSpec.ofChange fnExactDelObjectSpec)

/-- ITS FALSE NEIGHBOUR: 'it returns false'. Refute it at one input. -/
def fnExactDelObjectWrong : ChangeSpec := { name := "fnExactDelObject", fn := fun _ => fun
  | [d1, d2] => { results := [.lit (.bool false)], args := [d1, d2] }
  | _ => none }
def FnExactDelObjectWrongFalsely : Prop := fnExactDelObjectRow.holds Tryd.pinned (OpenSpec.ofChange fnExactDelObjectWrong)

/-- 'laws.FnExactLostOf': WHATEVER THE INPUT: true; the input reads as it did. -/
def fnExactLostOfSpec : ChangeSpec := { name := "fnExactLostOf", fn := fun _ => fun
  | [d1, d2] => { results := [.lit (.bool true)], args := [d1, d2] }
  | _ => none }
def fnExactLostOfRow : OpenClaim := { program := "ytdpaijnbikclgaadoor", sum := "96f03884443b6e12931031cabcf3068ae5be812dab0adeca707e68d18af786fe", func := "loop.example/g00294/laws.FnExactLostOf", spec := "fnExactLostOf", inPlace := ["internal/bytealg.IndexByteString", "internal/bytealg.IndexString", "internal/bytealg.abigen_runtime_cmpstring"], unfollowed := true, recurses := true, named := ["unicode/utf8.first", "unicode/utf8.acceptRanges", "internal/bytealg.MaxLen"], apart := false, laid := [("unicode/utf8.acceptRanges", laid_unicode_utf8_acceptRanges), ("unicode/utf8.first", laid_unicode_utf8_first)] }
def FnExactLostOfSaid : Prop := fnExactLostOfRow.holds Tryd.pinned (OpenSpec.ofChange fnExactLostOfSpec)

/-- ITS FALSE NEIGHBOUR: 'it returns false'. Refute it at one input. -/
def fnExactLostOfWrong : ChangeSpec := { name := "fnExactLostOf", fn := fun _ => fun
  | [d1, d2] => { results := [.lit (.bool false)], args := [d1, d2] }
  | _ => none }
def FnExactLostOfWrongFalsely : Prop := fnExactLostOfRow.holds Tryd.pinned (OpenSpec.ofChange fnExactLostOfWrong)

/- THE SECOND FORM. 'bulk': how many values and letters a reading holds, each counted each time it is reached (what is shared counts as often as it is met; a slice's spare places count too). A statement '..UptoSaid' is the law's where the arguments, and the package variables that the reading takes, are together of bulk at most 1048576: NARROWER than '..Said'. Prove '..Said' where nothing that the law and all that it calls make is longer than what came in: it says more and counts as full. Else prove '..UptoSaid'. A law counts once. -/
mutual
def uptoBulk {H : Type} : DataW H → Nat
  | .lit (.string bytes) => bytes.length + 1
  | .lit _ => 1
  | .nil => 1
  | .ptr d => uptoBulk d + 1
  | .slice elems spare => uptoBulkAll elems + uptoBulkAll spare + 1
  | .agg parts => uptoBulkAll parts + 1
  | .iface _ d => uptoBulk d + 1
  | .map entries => uptoBulkEntries entries + 1
  | .held _ => 1
def uptoBulkAll {H : Type} : List (DataW H) → Nat
  | [] => 0
  | d :: r => uptoBulk d + uptoBulkAll r
def uptoBulkEntries {H : Type} : List (Lit × DataW H) → Nat
  | [] => 0
  | x :: r => uptoBulkEntry x + uptoBulkEntries r
def uptoBulkEntry {H : Type} : Lit × DataW H → Nat
  | (.string bytes, d) => bytes.length + uptoBulk d + 1
  | (_, d) => uptoBulk d + 1
 end
def uptoSmall : (H : Type) → List (DataW H) → Bool := fun _ ds => decide (uptoBulkAll ds ≤ 1048576)
def OpenSpec.upto (s : _root_.Go.ChangeSpec) : _root_.Go.OpenSpec := { _root_.Go.OpenSpec.ofChange s with cond := some uptoSmall }

/-- 'laws.FnExactGoodCluster', WHERE WHAT IT READS IS OF BULK AT MOST 1048576: true; the input reads as it did. -/
def fnExactGoodClusterUptoRow : OpenClaim := { program := "ytdpaijnbikclgaadoor", sum := "96f03884443b6e12931031cabcf3068ae5be812dab0adeca707e68d18af786fe", func := "loop.example/g00294/laws.FnExactGoodCluster", spec := "fnExactGoodCluster", inPlace := ["internal/bytealg.IndexByteString", "internal/bytealg.IndexString", "internal/bytealg.abigen_runtime_cmpstring"], unfollowed := true, recurses := true, named := ["unicode/utf8.first", "unicode/utf8.acceptRanges", "internal/bytealg.MaxLen"], apart := false, laid := [("unicode/utf8.acceptRanges", laid_unicode_utf8_acceptRanges), ("unicode/utf8.first", laid_unicode_utf8_first)], narrowed := true }
def FnExactGoodClusterUptoSaid : Prop := fnExactGoodClusterUptoRow.holds Tryd.pinned (OpenSpec.upto fnExactGoodClusterSpec)

/-- 'laws.FnExactFailNode', WHERE WHAT IT READS IS OF BULK AT MOST 1048576: true; the input reads as it did. -/
def fnExactFailNodeUptoRow : OpenClaim := { program := "ytdpaijnbikclgaadoor", sum := "96f03884443b6e12931031cabcf3068ae5be812dab0adeca707e68d18af786fe", func := "loop.example/g00294/laws.FnExactFailNode", spec := "fnExactFailNode", inPlace := ["internal/bytealg.IndexByteString", "internal/bytealg.IndexString", "internal/bytealg.abigen_runtime_cmpstring"], unfollowed := true, recurses := true, named := ["unicode/utf8.first", "unicode/utf8.acceptRanges", "internal/bytealg.MaxLen"], apart := false, laid := [("unicode/utf8.acceptRanges", laid_unicode_utf8_acceptRanges), ("unicode/utf8.first", laid_unicode_utf8_first)], narrowed := true }
def FnExactFailNodeUptoSaid : Prop := fnExactFailNodeUptoRow.holds Tryd.pinned (OpenSpec.upto fnExactFailNodeSpec)

/-- 'laws.FnExactSpoilCell', WHERE WHAT IT READS IS OF BULK AT MOST 1048576: true; the input reads as it did. -/
def fnExactSpoilCellUptoRow : OpenClaim := { program := "ytdpaijnbikclgaadoor", sum := "96f03884443b6e12931031cabcf3068ae5be812dab0adeca707e68d18af786fe", func := "loop.example/g00294/laws.FnExactSpoilCell", spec := "fnExactSpoilCell", inPlace := ["internal/bytealg.IndexByteString", "internal/bytealg.IndexString", "internal/bytealg.abigen_runtime_cmpstring"], unfollowed := true, recurses := true, named := ["unicode/utf8.first", "unicode/utf8.acceptRanges", "internal/bytealg.MaxLen"], apart := false, laid := [("unicode/utf8.acceptRanges", laid_unicode_utf8_acceptRanges), ("unicode/utf8.first", laid_unicode_utf8_first)], narrowed := true }
def FnExactSpoilCellUptoSaid : Prop := fnExactSpoilCellUptoRow.holds Tryd.pinned (OpenSpec.upto fnExactSpoilCellSpec)

/-- 'laws.FnExactDelObject', WHERE WHAT IT READS IS OF BULK AT MOST 1048576: true; the input reads as it did. -/
def fnExactDelObjectUptoRow : OpenClaim := { program := "ytdpaijnbikclgaadoor", sum := "96f03884443b6e12931031cabcf3068ae5be812dab0adeca707e68d18af786fe", func := "loop.example/g00294/laws.FnExactDelObject", spec := "fnExactDelObject", inPlace := ["internal/bytealg.IndexByteString", "internal/bytealg.IndexString", "internal/bytealg.abigen_runtime_cmpstring"], unfollowed := true, recurses := true, named := ["unicode/utf8.first", "unicode/utf8.acceptRanges", "internal/bytealg.MaxLen"], apart := false, laid := [("unicode/utf8.acceptRanges", laid_unicode_utf8_acceptRanges), ("unicode/utf8.first", laid_unicode_utf8_first)], narrowed := true }
def FnExactDelObjectUptoSaid : Prop := fnExactDelObjectUptoRow.holds Tryd.pinned (OpenSpec.upto fnExactDelObjectSpec)

/-- 'laws.FnExactLostOf', WHERE WHAT IT READS IS OF BULK AT MOST 1048576: true; the input reads as it did. -/
def fnExactLostOfUptoRow : OpenClaim := { program := "ytdpaijnbikclgaadoor", sum := "96f03884443b6e12931031cabcf3068ae5be812dab0adeca707e68d18af786fe", func := "loop.example/g00294/laws.FnExactLostOf", spec := "fnExactLostOf", inPlace := ["internal/bytealg.IndexByteString", "internal/bytealg.IndexString", "internal/bytealg.abigen_runtime_cmpstring"], unfollowed := true, recurses := true, named := ["unicode/utf8.first", "unicode/utf8.acceptRanges", "internal/bytealg.MaxLen"], apart := false, laid := [("unicode/utf8.acceptRanges", laid_unicode_utf8_acceptRanges), ("unicode/utf8.first", laid_unicode_utf8_first)], narrowed := true }
def FnExactLostOfUptoSaid : Prop := fnExactLostOfUptoRow.holds Tryd.pinned (OpenSpec.upto fnExactLostOfSpec)

end Rows
end Go.Proofs.YtdpaijnbikclgaaDoor
