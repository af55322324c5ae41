/-
  No cell of these rows narrows 'for every input' (looked for: loops, veiled, ifaces, maps, wideKeys, modest, calm, conditions, laid).
  DERIVED. THE GIVEN ROWS OF THIS SEAT. 5 by the template 'for every input the law returns true; each argument reads behind the call as it read before'; 0 by the template 'total and deterministic' (their statements: YtomklniddinhnaaTotals.lean).
  GIVEN WITH THE SEED: the statements are not yours to turn. If you find one false, say at which input.
  Laid BY PROGRAM, IN A SANDBOX (cutbox-rows.mjs): the forced cells as the released guide's own fill.sh prints them over the translation 59dbac67c69d8bc9… (all of the seat's roots in one cut). By AI agents, Wed Nov 11 2026. No macro, syntax, notation, axiom, sorry.
-/
import Derived.Test.YtomklniddinhnaaChecked
import GoSem.Claim
import GoSem.ClaimJoined
import GoSem.ClaimMapViews
import Derived.JoinedTies
import Derived.KernelRfl
namespace Go.Proofs.Ytomklniddinhnaa
/- THE CELL 'sum', in the pinned program and in every row, IS THE sha256 OF THE DUMP (.gsa) THAT YtomklniddinhnaaProg.lean LOADS. Nothing in Lean hashes anything: it is a label: what it is worth is what the hold of that sum in a sandbox is worth. -/
noncomputable def Try.pinned : Pinned := { name := "ytomklniddinhnaa", sum := "59dbac67c69d8bc9e2d3a965d05ae856d405821e32a4f2df837da8953fae246f", checked := Try.checked }
namespace Rows
def none {H : Type} : Left H := { results := [], args := [] }

/-- 'laws.FnExactLosePart': WHATEVER THE INPUT: true; the input reads as it did. -/
def fnExactLosePartSpec : ChangeSpec := { name := "fnExactLosePart", fn := fun _ => fun
  | [d1, d2] => { results := [.lit (.bool true)], args := [d1, d2] }
  | _ => none }
def fnExactLosePartRow : OpenClaim := { program := "ytomklniddinhnaa", sum := "59dbac67c69d8bc9e2d3a965d05ae856d405821e32a4f2df837da8953fae246f", func := "loop.example/g00294/laws.FnExactLosePart", spec := "fnExactLosePart", unfollowed := true, recurses := true, apart := false }
def FnExactLosePartSaid : Prop := fnExactLosePartRow.holds Try.pinned (OpenSpec.ofChange fnExactLosePartSpec)

/-- ITS FALSE NEIGHBOUR: 'it returns false'. Refute it at one input. -/
def fnExactLosePartWrong : ChangeSpec := { name := "fnExactLosePart", fn := fun _ => fun
  | [d1, d2] => { results := [.lit (.bool false)], args := [d1, d2] }
  | _ => none }
def FnExactLosePartWrongFalsely : Prop := fnExactLosePartRow.holds Try.pinned (OpenSpec.ofChange fnExactLosePartWrong)

/-- 'laws.FnExactPartsFor': WHATEVER THE INPUT: true; the input reads as it did. -/
def fnExactPartsForSpec : ChangeSpec := { name := "fnExactPartsFor", fn := fun _ => fun
  | [d1, d2] => { results := [.lit (.bool true)], args := [d1, d2] }
  | _ => none }
def fnExactPartsForRow : OpenClaim := { program := "ytomklniddinhnaa", sum := "59dbac67c69d8bc9e2d3a965d05ae856d405821e32a4f2df837da8953fae246f", func := "loop.example/g00294/laws.FnExactPartsFor", spec := "fnExactPartsFor", inPlace := ["internal/abi.NoEscape", "internal/bytealg.MakeNoZero"], unfollowed := true, recurses := true, apart := false }
def FnExactPartsForSaid : Prop := fnExactPartsForRow.holds Try.pinned (OpenSpec.ofChange fnExactPartsForSpec)

/-- ITS FALSE NEIGHBOUR: 'it returns false'. Refute it at one input. -/
def fnExactPartsForWrong : ChangeSpec := { name := "fnExactPartsFor", fn := fun _ => fun
  | [d1, d2] => { results := [.lit (.bool false)], args := [d1, d2] }
  | _ => none }
def FnExactPartsForWrongFalsely : Prop := fnExactPartsForRow.holds Try.pinned (OpenSpec.ofChange fnExactPartsForWrong)

/-- 'laws.FnExactNewShelf': WHATEVER THE INPUT: true; the input reads as it did. -/
def fnExactNewShelfSpec : ChangeSpec := { name := "fnExactNewShelf", fn := fun _ => fun
  | [d1, d2] => { results := [.lit (.bool true)], args := [d1, d2] }
  | _ => none }
def fnExactNewShelfRow : OpenClaim := { program := "ytomklniddinhnaa", sum := "59dbac67c69d8bc9e2d3a965d05ae856d405821e32a4f2df837da8953fae246f", func := "loop.example/g00294/laws.FnExactNewShelf", spec := "fnExactNewShelf", inPlace := ["internal/abi.NoEscape", "internal/bytealg.MakeNoZero", "slices.overlaps[loop.example/g00294/impl.Part]"], unfollowed := true, recurses := true, apart := false }
def FnExactNewShelfSaid : Prop := fnExactNewShelfRow.holds Try.pinned (OpenSpec.ofChange fnExactNewShelfSpec)

/-- ITS FALSE NEIGHBOUR: 'it returns false'. Refute it at one input. -/
def fnExactNewShelfWrong : ChangeSpec := { name := "fnExactNewShelf", fn := fun _ => fun
  | [d1, d2] => { results := [.lit (.bool false)], args := [d1, d2] }
  | _ => none }
def FnExactNewShelfWrongFalsely : Prop := fnExactNewShelfRow.holds Try.pinned (OpenSpec.ofChange fnExactNewShelfWrong)

/-- 'laws.FnExactTextIn': WHATEVER THE INPUT: true; the input reads as it did. -/
def fnExactTextInSpec : ChangeSpec := { name := "fnExactTextIn", fn := fun _ => fun
  | [d] => { results := [.lit (.bool true)], args := [d] }
  | _ => none }
def fnExactTextInRow : OpenClaim := { program := "ytomklniddinhnaa", sum := "59dbac67c69d8bc9e2d3a965d05ae856d405821e32a4f2df837da8953fae246f", func := "loop.example/g00294/laws.FnExactTextIn", spec := "fnExactTextIn", inPlace := ["internal/abi.NoEscape", "internal/bytealg.MakeNoZero"], unfollowed := true, recurses := true, apart := false }
def FnExactTextInSaid : Prop := fnExactTextInRow.holds Try.pinned (OpenSpec.ofChange fnExactTextInSpec)

/-- ITS FALSE NEIGHBOUR: 'it returns false'. Refute it at one input. -/
def fnExactTextInWrong : ChangeSpec := { name := "fnExactTextIn", fn := fun _ => fun
  | [d] => { results := [.lit (.bool false)], args := [d] }
  | _ => none }
def FnExactTextInWrongFalsely : Prop := fnExactTextInRow.holds Try.pinned (OpenSpec.ofChange fnExactTextInWrong)

/-- 'laws.FnExactMoveSteps': WHATEVER THE INPUT: true; the input reads as it did. -/
def fnExactMoveStepsSpec : ChangeSpec := { name := "fnExactMoveSteps", fn := fun _ => fun
  | [d1, d2] => { results := [.lit (.bool true)], args := [d1, d2] }
  | _ => none }
def fnExactMoveStepsRow : OpenClaim := { program := "ytomklniddinhnaa", sum := "59dbac67c69d8bc9e2d3a965d05ae856d405821e32a4f2df837da8953fae246f", func := "loop.example/g00294/laws.FnExactMoveSteps", spec := "fnExactMoveSteps", inPlace := ["internal/abi.NoEscape", "internal/bytealg.MakeNoZero"], unfollowed := true, recurses := true, apart := false }
def FnExactMoveStepsSaid : Prop := fnExactMoveStepsRow.holds Try.pinned (OpenSpec.ofChange fnExactMoveStepsSpec)

/-- ITS FALSE NEIGHBOUR: 'it returns false'. Refute it at one input. -/
def fnExactMoveStepsWrong : ChangeSpec := { name := "fnExactMoveSteps", fn := fun _ => fun
  | [d1, d2] => { results := [.lit (.bool false)], args := [d1, d2] }
  | _ => none }
def FnExactMoveStepsWrongFalsely : Prop := fnExactMoveStepsRow.holds Try.pinned (OpenSpec.ofChange fnExactMoveStepsWrong)

/- THE SECOND FORM. 'bulk': how many values and letters a reading holds, each counted each time it is reached (what is shared counts as often as it is met; a slice's spare places count too). A statement '..UptoSaid' is the law's where the arguments, and the package variables that the reading takes, are together of bulk at most 1048576: NARROWER than '..Said'. Prove '..Said' where nothing that the law and all that it calls make is longer than what came in: it says more and counts as full. Else prove '..UptoSaid'. A law counts once. -/
mutual
def uptoBulk {H : Type} : DataW H → Nat
  | .lit (.string bytes) => bytes.length + 1
  | .lit _ => 1
  | .nil => 1
  | .ptr d => uptoBulk d + 1
  | .slice elems spare => uptoBulkAll elems + uptoBulkAll spare + 1
  | .agg parts => uptoBulkAll parts + 1
  | .iface _ d => uptoBulk d + 1
  | .map entries => uptoBulkEntries entries + 1
  | .held _ => 1
def uptoBulkAll {H : Type} : List (DataW H) → Nat
  | [] => 0
  | d :: r => uptoBulk d + uptoBulkAll r
def uptoBulkEntries {H : Type} : List (Lit × DataW H) → Nat
  | [] => 0
  | x :: r => uptoBulkEntry x + uptoBulkEntries r
def uptoBulkEntry {H : Type} : Lit × DataW H → Nat
  | (.string bytes, d) => bytes.length + uptoBulk d + 1
  | (_, d) => uptoBulk d + 1
 end
def uptoSmall : (H : Type) → List (DataW H) → Bool := fun _ ds => decide (uptoBulkAll ds ≤ 1048576)
def OpenSpec.upto (s : _root_.Go.ChangeSpec) : _root_.Go.OpenSpec := { _root_.Go.OpenSpec.ofChange s with cond := some uptoSmall }

/-- 'laws.FnExactLosePart', WHERE WHAT IT READS IS OF BULK AT MOST 1048576: true; the input reads as it did. -/
def fnExactLosePartUptoRow : OpenClaim := { program := "ytomklniddinhnaa", sum := "59dbac67c69d8bc9e2d3a965d05ae856d405821e32a4f2df837da8953fae246f", func := "loop.example/g00294/laws.FnExactLosePart", spec := "fnExactLosePart", unfollowed := true, recurses := true, apart := false, narrowed := true }
def FnExactLosePartUptoSaid : Prop := fnExactLosePartUptoRow.holds Try.pinned (OpenSpec.upto fnExactLosePartSpec)

/-- 'laws.FnExactPartsFor', WHERE WHAT IT READS IS OF BULK AT MOST 1048576: true; the input reads as it did. -/
def fnExactPartsForUptoRow : OpenClaim := { program := "ytomklniddinhnaa", sum := "59dbac67c69d8bc9e2d3a965d05ae856d405821e32a4f2df837da8953fae246f", func := "loop.example/g00294/laws.FnExactPartsFor", spec := "fnExactPartsFor", inPlace := ["internal/abi.NoEscape", "internal/bytealg.MakeNoZero"], unfollowed := true, recurses := true, apart := false, narrowed := true }
def FnExactPartsForUptoSaid : Prop := fnExactPartsForUptoRow.holds Try.pinned (OpenSpec.upto fnExactPartsForSpec)

/-- 'laws.FnExactNewShelf', WHERE WHAT IT READS IS OF BULK AT MOST 1048576: true; the input reads as it did. -/
def fnExactNewShelfUptoRow : OpenClaim := { program := "ytomklniddinhnaa", sum := "59dbac67c69d8bc9e2d3a965d05ae856d405821e32a4f2df837da8953fae246f", func := "loop.example/g00294/laws.FnExactNewShelf", spec := "fnExactNewShelf", inPlace := ["internal/abi.NoEscape", "internal/bytealg.MakeNoZero", "slices.overlaps[loop.example/g00294/impl.Part]"], unfollowed := true, recurses := true, apart := false, narrowed := true }
def FnExactNewShelfUptoSaid : Prop := fnExactNewShelfUptoRow.holds Try.pinned (OpenSpec.upto fnExactNewShelfSpec)

/-- 'laws.FnExactTextIn', WHERE WHAT IT READS IS OF BULK AT MOST 1048576: true; the input reads as it did. -/
def fnExactTextInUptoRow : OpenClaim := { program := "ytomklniddinhnaa", sum := "59dbac67c69d8bc9e2d3a965d05ae856d405821e32a4f2df837da8953fae246f", func := "loop.example/g00294/laws.FnExactTextIn", spec := "fnExactTextIn", inPlace := ["internal/abi.NoEscape", "internal/bytealg.MakeNoZero"], unfollowed := true, recurses := true, apart := false, narrowed := true }
def FnExactTextInUptoSaid : Prop := fnExactTextInUptoRow.holds Try.pinned (OpenSpec.upto fnExactTextInSpec)

/-- 'laws.FnExactMoveSteps', WHERE WHAT IT READS IS OF BULK AT MOST 1048576: true; the input reads as it did. -/
def fnExactMoveStepsUptoRow : OpenClaim := { program := "ytomklniddinhnaa", sum := "59dbac67c69d8bc9e2d3a965d05ae856d405821e32a4f2df837da8953fae246f", func := "loop.example/g00294/laws.FnExactMoveSteps", spec := "fnExactMoveSteps", inPlace := ["internal/abi.NoEscape", "internal/bytealg.MakeNoZero"], unfollowed := true, recurses := true, apart := false, narrowed := true }
def FnExactMoveStepsUptoSaid : Prop := fnExactMoveStepsUptoRow.holds Try.pinned (OpenSpec.upto fnExactMoveStepsSpec)

end Rows
end Go.Proofs.Ytomklniddinhnaa
