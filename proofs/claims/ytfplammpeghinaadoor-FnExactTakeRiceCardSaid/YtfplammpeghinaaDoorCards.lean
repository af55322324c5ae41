/-
  DERIVED. GIVEN WITH THE SEED: THE CARDS: each row of YtfplammpeghinaaDoorRows.lean that lists a variable, with what it lists TIED to the program's text (the seventh form; the later family's looks); each row that meets fmt, with fmt's text TOLD by the authors' own Lean function (tested against real Go, not proved from fmt's source: count such statements apart). THE CARD IS WHAT COUNTS. Prove the row's statement (the work); the ties are given (YtfplammpeghinaaDoorTie.lean); close each card by the builder's one call (the guide's Derived/Test/ToyasCard.lean, 'card_holds'). Laid BY PROGRAM, IN A SANDBOX (cutbox-door.mjs). By AI agents, Wed Nov 11 2026. No macro, syntax, notation, axiom, sorry.
-/
import Derived.Test.YtfplammpeghinaaDoorRows
import GoSem.ClaimSeven
namespace Go.Proofs.YtfplammpeghinaaDoor
namespace Rows

/-- THE TIED CARD OF 'laws.FnExactPackBits'. -/
def fnExactPackBitsCard : Claim7 := { stood := { row := fnExactPackBitsRow, standIns := [], harness := (true, "81fa24e3c1cf736fb8bcbd02b6ade7ce8a2e276cb37efe55e8a5a7f5abcc2a0d"), looks := false }, kinds := [], alts := [], laidByText := true, laidKinds := [.data, .pinned], laidTests := true, laidLooks := .later }
def FnExactPackBitsCardSaid : Prop := Claim7.holds Tryd.pinned (.plain (OpenSpec.ofChange fnExactPackBitsSpec)) fnExactPackBitsCard

/-- THE TIED CARD OF 'laws.FnExactPlaceOf'. -/
def fnExactPlaceOfCard : Claim7 := { stood := { row := fnExactPlaceOfRow, standIns := [], harness := (true, "81fa24e3c1cf736fb8bcbd02b6ade7ce8a2e276cb37efe55e8a5a7f5abcc2a0d"), looks := false }, kinds := [], alts := [], laidByText := true, laidKinds := [.data, .pinned], laidTests := true, laidLooks := .later }
def FnExactPlaceOfCardSaid : Prop := Claim7.holds Tryd.pinned (.plain (OpenSpec.ofChange fnExactPlaceOfSpec)) fnExactPlaceOfCard

/-- THE TIED CARD OF 'laws.FnExactTakeDelta'. -/
def fnExactTakeDeltaCard : Claim7 := { stood := { row := fnExactTakeDeltaRow, standIns := [], harness := (true, "81fa24e3c1cf736fb8bcbd02b6ade7ce8a2e276cb37efe55e8a5a7f5abcc2a0d"), looks := false }, kinds := [], alts := [], laidByText := true, laidKinds := [.data, .data, .data], laidTests := true, laidLooks := .later }
def FnExactTakeDeltaCardSaid : Prop := Claim7.holds Tryd.pinned (.plain (OpenSpec.ofChange fnExactTakeDeltaSpec)) fnExactTakeDeltaCard

/-- THE TIED CARD OF 'laws.FnExactTakeRice'. -/
def fnExactTakeRiceCard : Claim7 := { stood := { row := fnExactTakeRiceRow, standIns := [], harness := (true, "81fa24e3c1cf736fb8bcbd02b6ade7ce8a2e276cb37efe55e8a5a7f5abcc2a0d"), looks := false }, kinds := [], alts := [], laidByText := true, laidKinds := [.data, .data, .data], laidTests := true, laidLooks := .later }
def FnExactTakeRiceCardSaid : Prop := Claim7.holds Tryd.pinned (.plain (OpenSpec.ofChange fnExactTakeRiceSpec)) fnExactTakeRiceCard

/-- THE TIED CARD OF 'laws.FnExactEncodeList'. -/
def fnExactEncodeListCard : Claim7 := { stood := { row := fnExactEncodeListRow, standIns := [], harness := (true, "81fa24e3c1cf736fb8bcbd02b6ade7ce8a2e276cb37efe55e8a5a7f5abcc2a0d"), looks := false }, kinds := [], alts := [], laidByText := true, laidKinds := [.data, .data, .data], laidTests := true, laidLooks := .later }
def FnExactEncodeListCardSaid : Prop := Claim7.holds Tryd.pinned (.plain (OpenSpec.ofChange fnExactEncodeListSpec)) fnExactEncodeListCard

/-- THE TIED CARD OF 'laws.FnExactDecodeList'. -/
def fnExactDecodeListCard : Claim7 := { stood := { row := fnExactDecodeListRow, standIns := [], harness := (true, "81fa24e3c1cf736fb8bcbd02b6ade7ce8a2e276cb37efe55e8a5a7f5abcc2a0d"), looks := false }, kinds := [], alts := [], laidByText := true, laidKinds := [.data, .data, .data], laidTests := true, laidLooks := .later }
def FnExactDecodeListCardSaid : Prop := Claim7.holds Tryd.pinned (.plain (OpenSpec.ofChange fnExactDecodeListSpec)) fnExactDecodeListCard

/-- THE TIED CARD OF 'laws.FnExactFrameBy'. -/
def fnExactFrameByCard : Claim7 := { stood := { row := fnExactFrameByRow, standIns := [], harness := (true, "81fa24e3c1cf736fb8bcbd02b6ade7ce8a2e276cb37efe55e8a5a7f5abcc2a0d"), looks := false }, kinds := [], alts := [], laidByText := true, laidKinds := [.data, .data, .data], laidTests := true, laidLooks := .later }
def FnExactFrameByCardSaid : Prop := Claim7.holds Tryd.pinned (.plain (OpenSpec.ofChange fnExactFrameBySpec)) fnExactFrameByCard

/-- THE TIED CARD OF 'laws.FnExactBestFrame'. -/
def fnExactBestFrameCard : Claim7 := { stood := { row := fnExactBestFrameRow, standIns := [], harness := (true, "81fa24e3c1cf736fb8bcbd02b6ade7ce8a2e276cb37efe55e8a5a7f5abcc2a0d"), looks := false }, kinds := [], alts := [], laidByText := true, laidKinds := [.data, .data, .data], laidTests := true, laidLooks := .later }
def FnExactBestFrameCardSaid : Prop := Claim7.holds Tryd.pinned (.plain (OpenSpec.ofChange fnExactBestFrameSpec)) fnExactBestFrameCard

/-- THE SECOND FORM's CARD OF 'laws.FnExactPackBits'. -/
def fnExactPackBitsUptoCard : Claim7 := { stood := { row := fnExactPackBitsUptoRow, standIns := [], harness := (true, "81fa24e3c1cf736fb8bcbd02b6ade7ce8a2e276cb37efe55e8a5a7f5abcc2a0d"), looks := false }, kinds := [], alts := [], laidByText := true, laidKinds := [.data, .pinned], laidTests := true, laidLooks := .later }
def FnExactPackBitsUptoCardSaid : Prop := Claim7.holds Tryd.pinned (.plain (OpenSpec.upto fnExactPackBitsSpec)) fnExactPackBitsUptoCard

/-- THE SECOND FORM's CARD OF 'laws.FnExactPlaceOf'. -/
def fnExactPlaceOfUptoCard : Claim7 := { stood := { row := fnExactPlaceOfUptoRow, standIns := [], harness := (true, "81fa24e3c1cf736fb8bcbd02b6ade7ce8a2e276cb37efe55e8a5a7f5abcc2a0d"), looks := false }, kinds := [], alts := [], laidByText := true, laidKinds := [.data, .pinned], laidTests := true, laidLooks := .later }
def FnExactPlaceOfUptoCardSaid : Prop := Claim7.holds Tryd.pinned (.plain (OpenSpec.upto fnExactPlaceOfSpec)) fnExactPlaceOfUptoCard

/-- THE SECOND FORM's CARD OF 'laws.FnExactTakeDelta'. -/
def fnExactTakeDeltaUptoCard : Claim7 := { stood := { row := fnExactTakeDeltaUptoRow, standIns := [], harness := (true, "81fa24e3c1cf736fb8bcbd02b6ade7ce8a2e276cb37efe55e8a5a7f5abcc2a0d"), looks := false }, kinds := [], alts := [], laidByText := true, laidKinds := [.data, .data, .data], laidTests := true, laidLooks := .later }
def FnExactTakeDeltaUptoCardSaid : Prop := Claim7.holds Tryd.pinned (.plain (OpenSpec.upto fnExactTakeDeltaSpec)) fnExactTakeDeltaUptoCard

/-- THE SECOND FORM's CARD OF 'laws.FnExactTakeRice'. -/
def fnExactTakeRiceUptoCard : Claim7 := { stood := { row := fnExactTakeRiceUptoRow, standIns := [], harness := (true, "81fa24e3c1cf736fb8bcbd02b6ade7ce8a2e276cb37efe55e8a5a7f5abcc2a0d"), looks := false }, kinds := [], alts := [], laidByText := true, laidKinds := [.data, .data, .data], laidTests := true, laidLooks := .later }
def FnExactTakeRiceUptoCardSaid : Prop := Claim7.holds Tryd.pinned (.plain (OpenSpec.upto fnExactTakeRiceSpec)) fnExactTakeRiceUptoCard

/-- THE SECOND FORM's CARD OF 'laws.FnExactEncodeList'. -/
def fnExactEncodeListUptoCard : Claim7 := { stood := { row := fnExactEncodeListUptoRow, standIns := [], harness := (true, "81fa24e3c1cf736fb8bcbd02b6ade7ce8a2e276cb37efe55e8a5a7f5abcc2a0d"), looks := false }, kinds := [], alts := [], laidByText := true, laidKinds := [.data, .data, .data], laidTests := true, laidLooks := .later }
def FnExactEncodeListUptoCardSaid : Prop := Claim7.holds Tryd.pinned (.plain (OpenSpec.upto fnExactEncodeListSpec)) fnExactEncodeListUptoCard

/-- THE SECOND FORM's CARD OF 'laws.FnExactDecodeList'. -/
def fnExactDecodeListUptoCard : Claim7 := { stood := { row := fnExactDecodeListUptoRow, standIns := [], harness := (true, "81fa24e3c1cf736fb8bcbd02b6ade7ce8a2e276cb37efe55e8a5a7f5abcc2a0d"), looks := false }, kinds := [], alts := [], laidByText := true, laidKinds := [.data, .data, .data], laidTests := true, laidLooks := .later }
def FnExactDecodeListUptoCardSaid : Prop := Claim7.holds Tryd.pinned (.plain (OpenSpec.upto fnExactDecodeListSpec)) fnExactDecodeListUptoCard

/-- THE SECOND FORM's CARD OF 'laws.FnExactFrameBy'. -/
def fnExactFrameByUptoCard : Claim7 := { stood := { row := fnExactFrameByUptoRow, standIns := [], harness := (true, "81fa24e3c1cf736fb8bcbd02b6ade7ce8a2e276cb37efe55e8a5a7f5abcc2a0d"), looks := false }, kinds := [], alts := [], laidByText := true, laidKinds := [.data, .data, .data], laidTests := true, laidLooks := .later }
def FnExactFrameByUptoCardSaid : Prop := Claim7.holds Tryd.pinned (.plain (OpenSpec.upto fnExactFrameBySpec)) fnExactFrameByUptoCard

/-- THE SECOND FORM's CARD OF 'laws.FnExactBestFrame'. -/
def fnExactBestFrameUptoCard : Claim7 := { stood := { row := fnExactBestFrameUptoRow, standIns := [], harness := (true, "81fa24e3c1cf736fb8bcbd02b6ade7ce8a2e276cb37efe55e8a5a7f5abcc2a0d"), looks := false }, kinds := [], alts := [], laidByText := true, laidKinds := [.data, .data, .data], laidTests := true, laidLooks := .later }
def FnExactBestFrameUptoCardSaid : Prop := Claim7.holds Tryd.pinned (.plain (OpenSpec.upto fnExactBestFrameSpec)) fnExactBestFrameUptoCard
end Rows
end Go.Proofs.YtfplammpeghinaaDoor
