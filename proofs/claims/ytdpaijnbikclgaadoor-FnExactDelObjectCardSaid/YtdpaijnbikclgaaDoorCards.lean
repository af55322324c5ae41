/-
  DERIVED. GIVEN WITH THE SEED: THE CARDS: each row of YtdpaijnbikclgaaDoorRows.lean that lists a variable, with what it lists TIED to the program's text (the seventh form; the later family's looks); each row that meets fmt, with fmt's text TOLD by the authors' own Lean function (tested against real Go, not proved from fmt's source: count such statements apart). THE CARD IS WHAT COUNTS. Prove the row's statement (the work); the ties are given (YtdpaijnbikclgaaDoorTie.lean); close each card by the builder's one call (the guide's Derived/Test/ToyasCard.lean, 'card_holds'). Laid BY PROGRAM, IN A SANDBOX (cutbox-door.mjs). By AI agents, Wed Nov 11 2026. No macro, syntax, notation, axiom, sorry.
-/
import Derived.Test.YtdpaijnbikclgaaDoorRows
import GoSem.ClaimSeven
namespace Go.Proofs.YtdpaijnbikclgaaDoor
namespace Rows

/-- THE TIED CARD OF 'laws.FnExactGoodCluster'. -/
def fnExactGoodClusterCard : Claim7 := { stood := { row := fnExactGoodClusterRow, standIns := [], harness := (true, "7bfcbde955d71af29d44a6b5bcba32a00026699cf36227672673c3c5a63935a3"), looks := false }, kinds := [], alts := [], laidByText := true, laidKinds := [.data, .pinned], laidTests := true, laidLooks := .later }
def FnExactGoodClusterCardSaid : Prop := Claim7.holds Tryd.pinned (.plain (OpenSpec.ofChange fnExactGoodClusterSpec)) fnExactGoodClusterCard

/-- THE TIED CARD OF 'laws.FnExactFailNode'. -/
def fnExactFailNodeCard : Claim7 := { stood := { row := fnExactFailNodeRow, standIns := [], harness := (true, "7bfcbde955d71af29d44a6b5bcba32a00026699cf36227672673c3c5a63935a3"), looks := false }, kinds := [], alts := [], laidByText := true, laidKinds := [.data, .pinned], laidTests := true, laidLooks := .later }
def FnExactFailNodeCardSaid : Prop := Claim7.holds Tryd.pinned (.plain (OpenSpec.ofChange fnExactFailNodeSpec)) fnExactFailNodeCard

/-- THE TIED CARD OF 'laws.FnExactSpoilCell'. -/
def fnExactSpoilCellCard : Claim7 := { stood := { row := fnExactSpoilCellRow, standIns := [], harness := (true, "7bfcbde955d71af29d44a6b5bcba32a00026699cf36227672673c3c5a63935a3"), looks := false }, kinds := [], alts := [], laidByText := true, laidKinds := [.data, .pinned], laidTests := true, laidLooks := .later }
def FnExactSpoilCellCardSaid : Prop := Claim7.holds Tryd.pinned (.plain (OpenSpec.ofChange fnExactSpoilCellSpec)) fnExactSpoilCellCard

/-- THE TIED CARD OF 'laws.FnExactDelObject'. -/
def fnExactDelObjectCard : Claim7 := { stood := { row := fnExactDelObjectRow, standIns := [], harness := (true, "7bfcbde955d71af29d44a6b5bcba32a00026699cf36227672673c3c5a63935a3"), looks := false }, kinds := [], alts := [], laidByText := true, laidKinds := [.data, .pinned], laidTests := true, laidLooks := .later }
def FnExactDelObjectCardSaid : Prop := Claim7.holds Tryd.pinned (.plain (OpenSpec.ofChange fnExactDelObjectSpec)) fnExactDelObjectCard

/-- THE TIED CARD OF 'laws.FnExactLostOf'. -/
def fnExactLostOfCard : Claim7 := { stood := { row := fnExactLostOfRow, standIns := [], harness := (true, "7bfcbde955d71af29d44a6b5bcba32a00026699cf36227672673c3c5a63935a3"), looks := false }, kinds := [], alts := [], laidByText := true, laidKinds := [.data, .pinned], laidTests := true, laidLooks := .later }
def FnExactLostOfCardSaid : Prop := Claim7.holds Tryd.pinned (.plain (OpenSpec.ofChange fnExactLostOfSpec)) fnExactLostOfCard

/-- THE SECOND FORM's CARD OF 'laws.FnExactGoodCluster'. -/
def fnExactGoodClusterUptoCard : Claim7 := { stood := { row := fnExactGoodClusterUptoRow, standIns := [], harness := (true, "7bfcbde955d71af29d44a6b5bcba32a00026699cf36227672673c3c5a63935a3"), looks := false }, kinds := [], alts := [], laidByText := true, laidKinds := [.data, .pinned], laidTests := true, laidLooks := .later }
def FnExactGoodClusterUptoCardSaid : Prop := Claim7.holds Tryd.pinned (.plain (OpenSpec.upto fnExactGoodClusterSpec)) fnExactGoodClusterUptoCard

/-- THE SECOND FORM's CARD OF 'laws.FnExactFailNode'. -/
def fnExactFailNodeUptoCard : Claim7 := { stood := { row := fnExactFailNodeUptoRow, standIns := [], harness := (true, "7bfcbde955d71af29d44a6b5bcba32a00026699cf36227672673c3c5a63935a3"), looks := false }, kinds := [], alts := [], laidByText := true, laidKinds := [.data, .pinned], laidTests := true, laidLooks := .later }
def FnExactFailNodeUptoCardSaid : Prop := Claim7.holds Tryd.pinned (.plain (OpenSpec.upto fnExactFailNodeSpec)) fnExactFailNodeUptoCard

/-- THE SECOND FORM's CARD OF 'laws.FnExactSpoilCell'. -/
def fnExactSpoilCellUptoCard : Claim7 := { stood := { row := fnExactSpoilCellUptoRow, standIns := [], harness := (true, "7bfcbde955d71af29d44a6b5bcba32a00026699cf36227672673c3c5a63935a3"), looks := false }, kinds := [], alts := [], laidByText := true, laidKinds := [.data, .pinned], laidTests := true, laidLooks := .later }
def FnExactSpoilCellUptoCardSaid : Prop := Claim7.holds Tryd.pinned (.plain (OpenSpec.upto fnExactSpoilCellSpec)) fnExactSpoilCellUptoCard

/-- THE SECOND FORM's CARD OF 'laws.FnExactDelObject'. -/
def fnExactDelObjectUptoCard : Claim7 := { stood := { row := fnExactDelObjectUptoRow, standIns := [], harness := (true, "7bfcbde955d71af29d44a6b5bcba32a00026699cf36227672673c3c5a63935a3"), looks := false }, kinds := [], alts := [], laidByText := true, laidKinds := [.data, .pinned], laidTests := true, laidLooks := .later }
def FnExactDelObjectUptoCardSaid : Prop := Claim7.holds Tryd.pinned (.plain (OpenSpec.upto fnExactDelObjectSpec)) fnExactDelObjectUptoCard

/-- THE SECOND FORM's CARD OF 'laws.FnExactLostOf'. -/
def fnExactLostOfUptoCard : Claim7 := { stood := { row := fnExactLostOfUptoRow, standIns := [], harness := (true, "7bfcbde955d71af29d44a6b5bcba32a00026699cf36227672673c3c5a63935a3"), looks := false }, kinds := [], alts := [], laidByText := true, laidKinds := [.data, .pinned], laidTests := true, laidLooks := .later }
def FnExactLostOfUptoCardSaid : Prop := Claim7.holds Tryd.pinned (.plain (OpenSpec.upto fnExactLostOfSpec)) fnExactLostOfUptoCard
end Rows
end Go.Proofs.YtdpaijnbikclgaaDoor
