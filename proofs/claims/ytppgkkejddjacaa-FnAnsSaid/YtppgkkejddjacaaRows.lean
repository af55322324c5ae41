/-
  No cell of these rows narrows 'for every input' (looked for: loops, veiled, ifaces, maps, wideKeys, modest, calm, conditions, laid).
  DERIVED. THE GIVEN ROWS OF THIS SEAT. 10 by the template 'for every input the law returns true; each argument reads behind the call as it read before'; 0 by the template 'total and deterministic' (their statements: YtppgkkejddjacaaTotals.lean).
  GIVEN WITH THE SEED: the statements are not yours to turn. If you find one false, say at which input.
  Laid BY PROGRAM, IN A SANDBOX (cutbox-rows.mjs): the forced cells as the released guide's own fill.sh prints them over the translation ed377ab1a25a484d… (all of the seat's roots in one cut). By AI agents, Wed Nov 11 2026. No macro, syntax, notation, axiom, sorry.
-/
import Derived.Test.YtppgkkejddjacaaChecked
import GoSem.Claim
import GoSem.ClaimJoined
import GoSem.ClaimMapViews
import Derived.JoinedTies
import Derived.KernelRfl
namespace Go.Proofs.Ytppgkkejddjacaa
/- THE CELL 'sum', in the pinned program and in every row, IS THE sha256 OF THE DUMP (.gsa) THAT YtppgkkejddjacaaProg.lean LOADS. Nothing in Lean hashes anything: it is a label: what it is worth is what the hold of that sum in a sandbox is worth. -/
noncomputable def Try.pinned : Pinned := { name := "ytppgkkejddjacaa", sum := "ed377ab1a25a484d141ebf85b3c412b658440db50c64df84d72e4aa2b796b77f", checked := Try.checked }
namespace Rows
def none {H : Type} : Left H := { results := [], args := [] }

/-- 'laws.FnExactCountsFor': WHATEVER THE INPUT: true; the input reads as it did. -/
def fnExactCountsForSpec : ChangeSpec := { name := "fnExactCountsFor", fn := fun _ => fun
  | [d1, d2] => { results := [.lit (.bool true)], args := [d1, d2] }
  | _ => none }
def fnExactCountsForRow : OpenClaim := { program := "ytppgkkejddjacaa", sum := "ed377ab1a25a484d141ebf85b3c412b658440db50c64df84d72e4aa2b796b77f", func := "loop.example/g00294/laws.FnExactCountsFor", spec := "fnExactCountsFor", unfollowed := true, recurses := true, apart := false }
def FnExactCountsForSaid : Prop := fnExactCountsForRow.holds Try.pinned (OpenSpec.ofChange fnExactCountsForSpec)

/-- ITS FALSE NEIGHBOUR: 'it returns false'. Refute it at one input. -/
def fnExactCountsForWrong : ChangeSpec := { name := "fnExactCountsFor", fn := fun _ => fun
  | [d1, d2] => { results := [.lit (.bool false)], args := [d1, d2] }
  | _ => none }
def FnExactCountsForWrongFalsely : Prop := fnExactCountsForRow.holds Try.pinned (OpenSpec.ofChange fnExactCountsForWrong)

/-- 'laws.FnExactPutSymbol': WHATEVER THE INPUT: true; the input reads as it did. -/
def fnExactPutSymbolSpec : ChangeSpec := { name := "fnExactPutSymbol", fn := fun _ => fun
  | [d1, d2, d3] => { results := [.lit (.bool true)], args := [d1, d2, d3] }
  | _ => none }
def fnExactPutSymbolRow : OpenClaim := { program := "ytppgkkejddjacaa", sum := "ed377ab1a25a484d141ebf85b3c412b658440db50c64df84d72e4aa2b796b77f", func := "loop.example/g00294/laws.FnExactPutSymbol", spec := "fnExactPutSymbol", apart := false }
def FnExactPutSymbolSaid : Prop := fnExactPutSymbolRow.holds Try.pinned (OpenSpec.ofChange fnExactPutSymbolSpec)

/-- ITS FALSE NEIGHBOUR: 'it returns false'. Refute it at one input. -/
def fnExactPutSymbolWrong : ChangeSpec := { name := "fnExactPutSymbol", fn := fun _ => fun
  | [d1, d2, d3] => { results := [.lit (.bool false)], args := [d1, d2, d3] }
  | _ => none }
def FnExactPutSymbolWrongFalsely : Prop := fnExactPutSymbolRow.holds Try.pinned (OpenSpec.ofChange fnExactPutSymbolWrong)

/-- 'laws.FnExactCodeSymbols': WHATEVER THE INPUT: true; the input reads as it did. -/
def fnExactCodeSymbolsSpec : ChangeSpec := { name := "fnExactCodeSymbols", fn := fun _ => fun
  | [d1, d2] => { results := [.lit (.bool true)], args := [d1, d2] }
  | _ => none }
def fnExactCodeSymbolsRow : OpenClaim := { program := "ytppgkkejddjacaa", sum := "ed377ab1a25a484d141ebf85b3c412b658440db50c64df84d72e4aa2b796b77f", func := "loop.example/g00294/laws.FnExactCodeSymbols", spec := "fnExactCodeSymbols", unfollowed := true, recurses := true, apart := false }
def FnExactCodeSymbolsSaid : Prop := fnExactCodeSymbolsRow.holds Try.pinned (OpenSpec.ofChange fnExactCodeSymbolsSpec)

/-- ITS FALSE NEIGHBOUR: 'it returns false'. Refute it at one input. -/
def fnExactCodeSymbolsWrong : ChangeSpec := { name := "fnExactCodeSymbols", fn := fun _ => fun
  | [d1, d2] => { results := [.lit (.bool false)], args := [d1, d2] }
  | _ => none }
def FnExactCodeSymbolsWrongFalsely : Prop := fnExactCodeSymbolsRow.holds Try.pinned (OpenSpec.ofChange fnExactCodeSymbolsWrong)

/-- 'laws.FnExactNewCluster': WHATEVER THE INPUT: true; the input reads as it did. -/
def fnExactNewClusterSpec : ChangeSpec := { name := "fnExactNewCluster", fn := fun _ => fun
  | [d1, d2, d3] => { results := [.lit (.bool true)], args := [d1, d2, d3] }
  | _ => none }
def fnExactNewClusterRow : OpenClaim := { program := "ytppgkkejddjacaa", sum := "ed377ab1a25a484d141ebf85b3c412b658440db50c64df84d72e4aa2b796b77f", func := "loop.example/g00294/laws.FnExactNewCluster", spec := "fnExactNewCluster", apart := false }
def FnExactNewClusterSaid : Prop := fnExactNewClusterRow.holds Try.pinned (OpenSpec.ofChange fnExactNewClusterSpec)

/-- ITS FALSE NEIGHBOUR: 'it returns false'. Refute it at one input. -/
def fnExactNewClusterWrong : ChangeSpec := { name := "fnExactNewCluster", fn := fun _ => fun
  | [d1, d2, d3] => { results := [.lit (.bool false)], args := [d1, d2, d3] }
  | _ => none }
def FnExactNewClusterWrongFalsely : Prop := fnExactNewClusterRow.holds Try.pinned (OpenSpec.ofChange fnExactNewClusterWrong)

/-- 'laws.FnExactTakeSymbol': WHATEVER THE INPUT: true; the input reads as it did. -/
def fnExactTakeSymbolSpec : ChangeSpec := { name := "fnExactTakeSymbol", fn := fun _ => fun
  | [d1, d2] => { results := [.lit (.bool true)], args := [d1, d2] }
  | _ => none }
def fnExactTakeSymbolRow : OpenClaim := { program := "ytppgkkejddjacaa", sum := "ed377ab1a25a484d141ebf85b3c412b658440db50c64df84d72e4aa2b796b77f", func := "loop.example/g00294/laws.FnExactTakeSymbol", spec := "fnExactTakeSymbol", unfollowed := true, recurses := true, apart := false }
def FnExactTakeSymbolSaid : Prop := fnExactTakeSymbolRow.holds Try.pinned (OpenSpec.ofChange fnExactTakeSymbolSpec)

/-- ITS FALSE NEIGHBOUR: 'it returns false'. Refute it at one input. -/
def fnExactTakeSymbolWrong : ChangeSpec := { name := "fnExactTakeSymbol", fn := fun _ => fun
  | [d1, d2] => { results := [.lit (.bool false)], args := [d1, d2] }
  | _ => none }
def FnExactTakeSymbolWrongFalsely : Prop := fnExactTakeSymbolRow.holds Try.pinned (OpenSpec.ofChange fnExactTakeSymbolWrong)

/-- 'laws.FnExactDecodeSymbols': WHATEVER THE INPUT: true; the input reads as it did. -/
def fnExactDecodeSymbolsSpec : ChangeSpec := { name := "fnExactDecodeSymbols", fn := fun _ => fun
  | [d1, d2, d3] => { results := [.lit (.bool true)], args := [d1, d2, d3] }
  | _ => none }
def fnExactDecodeSymbolsRow : OpenClaim := { program := "ytppgkkejddjacaa", sum := "ed377ab1a25a484d141ebf85b3c412b658440db50c64df84d72e4aa2b796b77f", func := "loop.example/g00294/laws.FnExactDecodeSymbols", spec := "fnExactDecodeSymbols", unfollowed := true, recurses := true, apart := false }
def FnExactDecodeSymbolsSaid : Prop := fnExactDecodeSymbolsRow.holds Try.pinned (OpenSpec.ofChange fnExactDecodeSymbolsSpec)

/-- ITS FALSE NEIGHBOUR: 'it returns false'. Refute it at one input. -/
def fnExactDecodeSymbolsWrong : ChangeSpec := { name := "fnExactDecodeSymbols", fn := fun _ => fun
  | [d1, d2, d3] => { results := [.lit (.bool false)], args := [d1, d2, d3] }
  | _ => none }
def FnExactDecodeSymbolsWrongFalsely : Prop := fnExactDecodeSymbolsRow.holds Try.pinned (OpenSpec.ofChange fnExactDecodeSymbolsWrong)

/-- 'laws.FnExactGoodShelf': WHATEVER THE INPUT: true; the input reads as it did. -/
def fnExactGoodShelfSpec : ChangeSpec := { name := "fnExactGoodShelf", fn := fun _ => fun
  | [d] => { results := [.lit (.bool true)], args := [d] }
  | _ => none }
def fnExactGoodShelfRow : OpenClaim := { program := "ytppgkkejddjacaa", sum := "ed377ab1a25a484d141ebf85b3c412b658440db50c64df84d72e4aa2b796b77f", func := "loop.example/g00294/laws.FnExactGoodShelf", spec := "fnExactGoodShelf", unfollowed := true, recurses := true, apart := false }
def FnExactGoodShelfSaid : Prop := fnExactGoodShelfRow.holds Try.pinned (OpenSpec.ofChange fnExactGoodShelfSpec)

/-- ITS FALSE NEIGHBOUR: 'it returns false'. Refute it at one input. -/
def fnExactGoodShelfWrong : ChangeSpec := { name := "fnExactGoodShelf", fn := fun _ => fun
  | [d] => { results := [.lit (.bool false)], args := [d] }
  | _ => none }
def FnExactGoodShelfWrongFalsely : Prop := fnExactGoodShelfRow.holds Try.pinned (OpenSpec.ofChange fnExactGoodShelfWrong)

/-- 'laws.FnExactTierOf': WHATEVER THE INPUT: true; the input reads as it did. -/
def fnExactTierOfSpec : ChangeSpec := { name := "fnExactTierOf", fn := fun _ => fun
  | [d] => { results := [.lit (.bool true)], args := [d] }
  | _ => none }
def fnExactTierOfRow : OpenClaim := { program := "ytppgkkejddjacaa", sum := "ed377ab1a25a484d141ebf85b3c412b658440db50c64df84d72e4aa2b796b77f", func := "loop.example/g00294/laws.FnExactTierOf", spec := "fnExactTierOf", unfollowed := true, recurses := true, apart := false }
def FnExactTierOfSaid : Prop := fnExactTierOfRow.holds Try.pinned (OpenSpec.ofChange fnExactTierOfSpec)

/-- ITS FALSE NEIGHBOUR: 'it returns false'. Refute it at one input. -/
def fnExactTierOfWrong : ChangeSpec := { name := "fnExactTierOf", fn := fun _ => fun
  | [d] => { results := [.lit (.bool false)], args := [d] }
  | _ => none }
def FnExactTierOfWrongFalsely : Prop := fnExactTierOfRow.holds Try.pinned (OpenSpec.ofChange fnExactTierOfWrong)

/-- 'laws.FnCounts': WHATEVER THE INPUT: true; the input reads as it did. -/
def fnCountsSpec : ChangeSpec := { name := "fnCounts", fn := fun _ => fun
  | [d1, d2] => { results := [.lit (.bool true)], args := [d1, d2] }
  | _ => none }
def fnCountsRow : OpenClaim := { program := "ytppgkkejddjacaa", sum := "ed377ab1a25a484d141ebf85b3c412b658440db50c64df84d72e4aa2b796b77f", func := "loop.example/g00294/laws.FnCounts", spec := "fnCounts", unfollowed := true, recurses := true, apart := false }
def FnCountsSaid : Prop := fnCountsRow.holds Try.pinned (OpenSpec.ofChange fnCountsSpec)

/-- ITS FALSE NEIGHBOUR: 'it returns false'. Refute it at one input. -/
def fnCountsWrong : ChangeSpec := { name := "fnCounts", fn := fun _ => fun
  | [d1, d2] => { results := [.lit (.bool false)], args := [d1, d2] }
  | _ => none }
def FnCountsWrongFalsely : Prop := fnCountsRow.holds Try.pinned (OpenSpec.ofChange fnCountsWrong)

/-- 'laws.FnAns': WHATEVER THE INPUT: true; the input reads as it did. -/
def fnAnsSpec : ChangeSpec := { name := "fnAns", fn := fun _ => fun
  | [d1, d2] => { results := [.lit (.bool true)], args := [d1, d2] }
  | _ => none }
def fnAnsRow : OpenClaim := { program := "ytppgkkejddjacaa", sum := "ed377ab1a25a484d141ebf85b3c412b658440db50c64df84d72e4aa2b796b77f", func := "loop.example/g00294/laws.FnAns", spec := "fnAns", unfollowed := true, recurses := true, apart := false }
def FnAnsSaid : Prop := fnAnsRow.holds Try.pinned (OpenSpec.ofChange fnAnsSpec)

/-- ITS FALSE NEIGHBOUR: 'it returns false'. Refute it at one input. -/
def fnAnsWrong : ChangeSpec := { name := "fnAns", fn := fun _ => fun
  | [d1, d2] => { results := [.lit (.bool false)], args := [d1, d2] }
  | _ => none }
def FnAnsWrongFalsely : Prop := fnAnsRow.holds Try.pinned (OpenSpec.ofChange fnAnsWrong)

/- THE SECOND FORM. 'bulk': how many values and letters a reading holds, each counted each time it is reached (what is shared counts as often as it is met; a slice's spare places count too). A statement '..UptoSaid' is the law's where the arguments, and the package variables that the reading takes, are together of bulk at most 1048576: NARROWER than '..Said'. Prove '..Said' where nothing that the law and all that it calls make is longer than what came in: it says more and counts as full. Else prove '..UptoSaid'. A law counts once. -/
mutual
def uptoBulk {H : Type} : DataW H → Nat
  | .lit (.string bytes) => bytes.length + 1
  | .lit _ => 1
  | .nil => 1
  | .ptr d => uptoBulk d + 1
  | .slice elems spare => uptoBulkAll elems + uptoBulkAll spare + 1
  | .agg parts => uptoBulkAll parts + 1
  | .iface _ d => uptoBulk d + 1
  | .map entries => uptoBulkEntries entries + 1
  | .held _ => 1
def uptoBulkAll {H : Type} : List (DataW H) → Nat
  | [] => 0
  | d :: r => uptoBulk d + uptoBulkAll r
def uptoBulkEntries {H : Type} : List (Lit × DataW H) → Nat
  | [] => 0
  | x :: r => uptoBulkEntry x + uptoBulkEntries r
def uptoBulkEntry {H : Type} : Lit × DataW H → Nat
  | (.string bytes, d) => bytes.length + uptoBulk d + 1
  | (_, d) => uptoBulk d + 1
 end
def uptoSmall : (H : Type) → List (DataW H) → Bool := fun _ ds => decide (uptoBulkAll ds ≤ 1048576)
def OpenSpec.upto (s : _root_.Go.ChangeSpec) : _root_.Go.OpenSpec := { _root_.Go.OpenSpec.ofChange s with cond := some uptoSmall }

/-- 'laws.FnExactCountsFor', WHERE WHAT IT READS IS OF BULK AT MOST 1048576: true; the input reads as it did. -/
def fnExactCountsForUptoRow : OpenClaim := { program := "ytppgkkejddjacaa", sum := "ed377ab1a25a484d141ebf85b3c412b658440db50c64df84d72e4aa2b796b77f", func := "loop.example/g00294/laws.FnExactCountsFor", spec := "fnExactCountsFor", unfollowed := true, recurses := true, apart := false, narrowed := true }
def FnExactCountsForUptoSaid : Prop := fnExactCountsForUptoRow.holds Try.pinned (OpenSpec.upto fnExactCountsForSpec)

/-- 'laws.FnExactPutSymbol', WHERE WHAT IT READS IS OF BULK AT MOST 1048576: true; the input reads as it did. -/
def fnExactPutSymbolUptoRow : OpenClaim := { program := "ytppgkkejddjacaa", sum := "ed377ab1a25a484d141ebf85b3c412b658440db50c64df84d72e4aa2b796b77f", func := "loop.example/g00294/laws.FnExactPutSymbol", spec := "fnExactPutSymbol", apart := false, narrowed := true }
def FnExactPutSymbolUptoSaid : Prop := fnExactPutSymbolUptoRow.holds Try.pinned (OpenSpec.upto fnExactPutSymbolSpec)

/-- 'laws.FnExactCodeSymbols', WHERE WHAT IT READS IS OF BULK AT MOST 1048576: true; the input reads as it did. -/
def fnExactCodeSymbolsUptoRow : OpenClaim := { program := "ytppgkkejddjacaa", sum := "ed377ab1a25a484d141ebf85b3c412b658440db50c64df84d72e4aa2b796b77f", func := "loop.example/g00294/laws.FnExactCodeSymbols", spec := "fnExactCodeSymbols", unfollowed := true, recurses := true, apart := false, narrowed := true }
def FnExactCodeSymbolsUptoSaid : Prop := fnExactCodeSymbolsUptoRow.holds Try.pinned (OpenSpec.upto fnExactCodeSymbolsSpec)

/-- 'laws.FnExactNewCluster', WHERE WHAT IT READS IS OF BULK AT MOST 1048576: true; the input reads as it did. -/
def fnExactNewClusterUptoRow : OpenClaim := { program := "ytppgkkejddjacaa", sum := "ed377ab1a25a484d141ebf85b3c412b658440db50c64df84d72e4aa2b796b77f", func := "loop.example/g00294/laws.FnExactNewCluster", spec := "fnExactNewCluster", apart := false, narrowed := true }
def FnExactNewClusterUptoSaid : Prop := fnExactNewClusterUptoRow.holds Try.pinned (OpenSpec.upto fnExactNewClusterSpec)

/-- 'laws.FnExactTakeSymbol', WHERE WHAT IT READS IS OF BULK AT MOST 1048576: true; the input reads as it did. -/
def fnExactTakeSymbolUptoRow : OpenClaim := { program := "ytppgkkejddjacaa", sum := "ed377ab1a25a484d141ebf85b3c412b658440db50c64df84d72e4aa2b796b77f", func := "loop.example/g00294/laws.FnExactTakeSymbol", spec := "fnExactTakeSymbol", unfollowed := true, recurses := true, apart := false, narrowed := true }
def FnExactTakeSymbolUptoSaid : Prop := fnExactTakeSymbolUptoRow.holds Try.pinned (OpenSpec.upto fnExactTakeSymbolSpec)

/-- 'laws.FnExactDecodeSymbols', WHERE WHAT IT READS IS OF BULK AT MOST 1048576: true; the input reads as it did. -/
def fnExactDecodeSymbolsUptoRow : OpenClaim := { program := "ytppgkkejddjacaa", sum := "ed377ab1a25a484d141ebf85b3c412b658440db50c64df84d72e4aa2b796b77f", func := "loop.example/g00294/laws.FnExactDecodeSymbols", spec := "fnExactDecodeSymbols", unfollowed := true, recurses := true, apart := false, narrowed := true }
def FnExactDecodeSymbolsUptoSaid : Prop := fnExactDecodeSymbolsUptoRow.holds Try.pinned (OpenSpec.upto fnExactDecodeSymbolsSpec)

/-- 'laws.FnExactGoodShelf', WHERE WHAT IT READS IS OF BULK AT MOST 1048576: true; the input reads as it did. -/
def fnExactGoodShelfUptoRow : OpenClaim := { program := "ytppgkkejddjacaa", sum := "ed377ab1a25a484d141ebf85b3c412b658440db50c64df84d72e4aa2b796b77f", func := "loop.example/g00294/laws.FnExactGoodShelf", spec := "fnExactGoodShelf", unfollowed := true, recurses := true, apart := false, narrowed := true }
def FnExactGoodShelfUptoSaid : Prop := fnExactGoodShelfUptoRow.holds Try.pinned (OpenSpec.upto fnExactGoodShelfSpec)

/-- 'laws.FnExactTierOf', WHERE WHAT IT READS IS OF BULK AT MOST 1048576: true; the input reads as it did. -/
def fnExactTierOfUptoRow : OpenClaim := { program := "ytppgkkejddjacaa", sum := "ed377ab1a25a484d141ebf85b3c412b658440db50c64df84d72e4aa2b796b77f", func := "loop.example/g00294/laws.FnExactTierOf", spec := "fnExactTierOf", unfollowed := true, recurses := true, apart := false, narrowed := true }
def FnExactTierOfUptoSaid : Prop := fnExactTierOfUptoRow.holds Try.pinned (OpenSpec.upto fnExactTierOfSpec)

/-- 'laws.FnCounts', WHERE WHAT IT READS IS OF BULK AT MOST 1048576: true; the input reads as it did. -/
def fnCountsUptoRow : OpenClaim := { program := "ytppgkkejddjacaa", sum := "ed377ab1a25a484d141ebf85b3c412b658440db50c64df84d72e4aa2b796b77f", func := "loop.example/g00294/laws.FnCounts", spec := "fnCounts", unfollowed := true, recurses := true, apart := false, narrowed := true }
def FnCountsUptoSaid : Prop := fnCountsUptoRow.holds Try.pinned (OpenSpec.upto fnCountsSpec)

/-- 'laws.FnAns', WHERE WHAT IT READS IS OF BULK AT MOST 1048576: true; the input reads as it did. -/
def fnAnsUptoRow : OpenClaim := { program := "ytppgkkejddjacaa", sum := "ed377ab1a25a484d141ebf85b3c412b658440db50c64df84d72e4aa2b796b77f", func := "loop.example/g00294/laws.FnAns", spec := "fnAns", unfollowed := true, recurses := true, apart := false, narrowed := true }
def FnAnsUptoSaid : Prop := fnAnsUptoRow.holds Try.pinned (OpenSpec.upto fnAnsSpec)

end Rows
end Go.Proofs.Ytppgkkejddjacaa
