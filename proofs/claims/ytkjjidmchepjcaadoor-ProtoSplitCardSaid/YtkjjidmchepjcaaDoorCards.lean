/-
  DERIVED. GIVEN WITH THE SEED: THE CARDS: each row of YtkjjidmchepjcaaDoorRows.lean that lists a variable, with what it lists TIED to the program's text (the seventh form; the later family's looks); each row that meets fmt, with fmt's text TOLD by the authors' own Lean function (tested against real Go, not proved from fmt's source: count such statements apart). THE CARD IS WHAT COUNTS. Prove the row's statement (the work); the ties are given (YtkjjidmchepjcaaDoorTie.lean); close each card by the builder's one call (the guide's Derived/Test/ToyasCard.lean, 'card_holds'). Laid BY PROGRAM, IN A SANDBOX (cutbox-door.mjs). By AI agents, Wed Nov 11 2026. No macro, syntax, notation, axiom, sorry.
-/
import Derived.Test.YtkjjidmchepjcaaDoorRows
import GoSem.ClaimSeven
namespace Go.Proofs.YtkjjidmchepjcaaDoor
namespace Rows

/-- THE TIED CARD OF 'conciergelaw24.ProtoSplit'. -/
def protoSplitCard : Claim7 := { stood := { row := protoSplitRow, standIns := [], harness := (true, "c314dc94931e98cbe3d4d6eb3692b5707af6bfaaaedeb1473d02d33a5b381758"), looks := true }, kinds := [], alts := [], laidByText := true, laidKinds := [.data, .pinned], laidTests := true, laidLooks := .later }
def ProtoSplitCardSaid : Prop := Claim7.holds Tryd.pinned (.plain (OpenSpec.ofChange protoSplitSpec)) protoSplitCard

/-- THE TIED CARD OF 'conciergelaw24.ProtoStream'. -/
def protoStreamCard : Claim7 := { stood := { row := protoStreamRow, standIns := [], harness := (true, "c314dc94931e98cbe3d4d6eb3692b5707af6bfaaaedeb1473d02d33a5b381758"), looks := true }, kinds := [], alts := [], laidByText := true, laidKinds := [.data, .pinned], laidTests := true, laidLooks := .later }
def ProtoStreamCardSaid : Prop := Claim7.holds Tryd.pinned (.plain (OpenSpec.ofChange protoStreamSpec)) protoStreamCard

/-- THE TIED CARD OF 'conciergelaw24.ProtoCode'. -/
def protoCodeCard : Claim7 := { stood := { row := protoCodeRow, standIns := [], harness := (true, "c314dc94931e98cbe3d4d6eb3692b5707af6bfaaaedeb1473d02d33a5b381758"), looks := true }, kinds := [], alts := [], laidByText := true, laidKinds := [.data, .pinned], laidTests := true, laidLooks := .later }
def ProtoCodeCardSaid : Prop := Claim7.holds Tryd.pinned (.plain (OpenSpec.ofChange protoCodeSpec)) protoCodeCard

/-- THE TIED CARD OF 'conciergelaw24.ProtoDecode'. -/
def protoDecodeCard : Claim7 := { stood := { row := protoDecodeRow, standIns := [], harness := (true, "c314dc94931e98cbe3d4d6eb3692b5707af6bfaaaedeb1473d02d33a5b381758"), looks := true }, kinds := [], alts := [], laidByText := true, laidKinds := [.data, .pinned], laidTests := true, laidLooks := .later }
def ProtoDecodeCardSaid : Prop := Claim7.holds Tryd.pinned (.plain (OpenSpec.ofChange protoDecodeSpec)) protoDecodeCard

/-- THE TIED CARD OF 'conciergelaw5.WireBehind'. -/
def wireBehindCard : Claim7 := { stood := { row := wireBehindRow, standIns := [], harness := (true, "c314dc94931e98cbe3d4d6eb3692b5707af6bfaaaedeb1473d02d33a5b381758"), looks := true }, kinds := [], alts := [], laidByText := true, laidKinds := [.data, .pinned], laidTests := true, laidLooks := .later }
def WireBehindCardSaid : Prop := Claim7.holds Tryd.pinned (.plain (OpenSpec.ofChange wireBehindSpec)) wireBehindCard

/-- THE TIED CARD OF 'conciergelaw5.WireCode'. -/
def wireCodeCard : Claim7 := { stood := { row := wireCodeRow, standIns := [], harness := (true, "c314dc94931e98cbe3d4d6eb3692b5707af6bfaaaedeb1473d02d33a5b381758"), looks := true }, kinds := [], alts := [], laidByText := true, laidKinds := [.data, .pinned], laidTests := true, laidLooks := .later }
def WireCodeCardSaid : Prop := Claim7.holds Tryd.pinned (.plain (OpenSpec.ofChange wireCodeSpec)) wireCodeCard

/-- THE TIED CARD OF 'conciergelaw5.WireDecode'. -/
def wireDecodeCard : Claim7 := { stood := { row := wireDecodeRow, standIns := [], harness := (true, "c314dc94931e98cbe3d4d6eb3692b5707af6bfaaaedeb1473d02d33a5b381758"), looks := true }, kinds := [], alts := [], laidByText := true, laidKinds := [.data, .pinned], laidTests := true, laidLooks := .later }
def WireDecodeCardSaid : Prop := Claim7.holds Tryd.pinned (.plain (OpenSpec.ofChange wireDecodeSpec)) wireDecodeCard

/-- THE TIED CARD OF 'conciergelaw5.WireShort'. -/
def wireShortCard : Claim7 := { stood := { row := wireShortRow, standIns := [], harness := (true, "c314dc94931e98cbe3d4d6eb3692b5707af6bfaaaedeb1473d02d33a5b381758"), looks := true }, kinds := [], alts := [], laidByText := true, laidKinds := [.data, .pinned], laidTests := true, laidLooks := .later }
def WireShortCardSaid : Prop := Claim7.holds Tryd.pinned (.plain (OpenSpec.ofChange wireShortSpec)) wireShortCard

/-- THE TIED CARD OF 'conciergelaw4.NameSearch'. -/
def nameSearchCard : Claim7 := { stood := { row := nameSearchRow, standIns := [], harness := (true, "c314dc94931e98cbe3d4d6eb3692b5707af6bfaaaedeb1473d02d33a5b381758"), looks := true }, kinds := [], alts := [], laidByText := true, laidKinds := [.data, .data, .data, .data, .pinned], laidTests := true, laidLooks := .later }
def NameSearchCardSaid : Prop := Claim7.holds Tryd.pinned (.plain (OpenSpec.ofChange nameSearchSpec)) nameSearchCard

/-- THE TIED CARD OF 'conciergelaw4.NameReverse'. -/
def nameReverseCard : Claim7 := { stood := { row := nameReverseRow, standIns := [], harness := (true, "c314dc94931e98cbe3d4d6eb3692b5707af6bfaaaedeb1473d02d33a5b381758"), looks := true }, kinds := [], alts := [], laidByText := true, laidKinds := [.data, .data, .data, .data, .pinned], laidTests := true, laidLooks := .later }
def NameReverseCardSaid : Prop := Claim7.holds Tryd.pinned (.plain (OpenSpec.ofChange nameReverseSpec)) nameReverseCard

/-- THE TIED CARD OF 'conciergelaw4.NameRooted'. -/
def nameRootedCard : Claim7 := { stood := { row := nameRootedRow, standIns := [], harness := (true, "c314dc94931e98cbe3d4d6eb3692b5707af6bfaaaedeb1473d02d33a5b381758"), looks := true }, kinds := [], alts := [], laidByText := true, laidKinds := [.data, .data, .data, .data, .pinned], laidTests := true, laidLooks := .later }
def NameRootedCardSaid : Prop := Claim7.holds Tryd.pinned (.plain (OpenSpec.ofChange nameRootedSpec)) nameRootedCard

/-- THE SECOND FORM's CARD OF 'conciergelaw24.ProtoSplit'. -/
def protoSplitUptoCard : Claim7 := { stood := { row := protoSplitUptoRow, standIns := [], harness := (true, "c314dc94931e98cbe3d4d6eb3692b5707af6bfaaaedeb1473d02d33a5b381758"), looks := true }, kinds := [], alts := [], laidByText := true, laidKinds := [.data, .pinned], laidTests := true, laidLooks := .later }
def ProtoSplitUptoCardSaid : Prop := Claim7.holds Tryd.pinned (.plain (OpenSpec.upto protoSplitSpec)) protoSplitUptoCard

/-- THE SECOND FORM's CARD OF 'conciergelaw24.ProtoStream'. -/
def protoStreamUptoCard : Claim7 := { stood := { row := protoStreamUptoRow, standIns := [], harness := (true, "c314dc94931e98cbe3d4d6eb3692b5707af6bfaaaedeb1473d02d33a5b381758"), looks := true }, kinds := [], alts := [], laidByText := true, laidKinds := [.data, .pinned], laidTests := true, laidLooks := .later }
def ProtoStreamUptoCardSaid : Prop := Claim7.holds Tryd.pinned (.plain (OpenSpec.upto protoStreamSpec)) protoStreamUptoCard

/-- THE SECOND FORM's CARD OF 'conciergelaw24.ProtoCode'. -/
def protoCodeUptoCard : Claim7 := { stood := { row := protoCodeUptoRow, standIns := [], harness := (true, "c314dc94931e98cbe3d4d6eb3692b5707af6bfaaaedeb1473d02d33a5b381758"), looks := true }, kinds := [], alts := [], laidByText := true, laidKinds := [.data, .pinned], laidTests := true, laidLooks := .later }
def ProtoCodeUptoCardSaid : Prop := Claim7.holds Tryd.pinned (.plain (OpenSpec.upto protoCodeSpec)) protoCodeUptoCard

/-- THE SECOND FORM's CARD OF 'conciergelaw24.ProtoDecode'. -/
def protoDecodeUptoCard : Claim7 := { stood := { row := protoDecodeUptoRow, standIns := [], harness := (true, "c314dc94931e98cbe3d4d6eb3692b5707af6bfaaaedeb1473d02d33a5b381758"), looks := true }, kinds := [], alts := [], laidByText := true, laidKinds := [.data, .pinned], laidTests := true, laidLooks := .later }
def ProtoDecodeUptoCardSaid : Prop := Claim7.holds Tryd.pinned (.plain (OpenSpec.upto protoDecodeSpec)) protoDecodeUptoCard

/-- THE SECOND FORM's CARD OF 'conciergelaw5.WireBehind'. -/
def wireBehindUptoCard : Claim7 := { stood := { row := wireBehindUptoRow, standIns := [], harness := (true, "c314dc94931e98cbe3d4d6eb3692b5707af6bfaaaedeb1473d02d33a5b381758"), looks := true }, kinds := [], alts := [], laidByText := true, laidKinds := [.data, .pinned], laidTests := true, laidLooks := .later }
def WireBehindUptoCardSaid : Prop := Claim7.holds Tryd.pinned (.plain (OpenSpec.upto wireBehindSpec)) wireBehindUptoCard

/-- THE SECOND FORM's CARD OF 'conciergelaw5.WireCode'. -/
def wireCodeUptoCard : Claim7 := { stood := { row := wireCodeUptoRow, standIns := [], harness := (true, "c314dc94931e98cbe3d4d6eb3692b5707af6bfaaaedeb1473d02d33a5b381758"), looks := true }, kinds := [], alts := [], laidByText := true, laidKinds := [.data, .pinned], laidTests := true, laidLooks := .later }
def WireCodeUptoCardSaid : Prop := Claim7.holds Tryd.pinned (.plain (OpenSpec.upto wireCodeSpec)) wireCodeUptoCard

/-- THE SECOND FORM's CARD OF 'conciergelaw5.WireDecode'. -/
def wireDecodeUptoCard : Claim7 := { stood := { row := wireDecodeUptoRow, standIns := [], harness := (true, "c314dc94931e98cbe3d4d6eb3692b5707af6bfaaaedeb1473d02d33a5b381758"), looks := true }, kinds := [], alts := [], laidByText := true, laidKinds := [.data, .pinned], laidTests := true, laidLooks := .later }
def WireDecodeUptoCardSaid : Prop := Claim7.holds Tryd.pinned (.plain (OpenSpec.upto wireDecodeSpec)) wireDecodeUptoCard

/-- THE SECOND FORM's CARD OF 'conciergelaw5.WireShort'. -/
def wireShortUptoCard : Claim7 := { stood := { row := wireShortUptoRow, standIns := [], harness := (true, "c314dc94931e98cbe3d4d6eb3692b5707af6bfaaaedeb1473d02d33a5b381758"), looks := true }, kinds := [], alts := [], laidByText := true, laidKinds := [.data, .pinned], laidTests := true, laidLooks := .later }
def WireShortUptoCardSaid : Prop := Claim7.holds Tryd.pinned (.plain (OpenSpec.upto wireShortSpec)) wireShortUptoCard

/-- THE SECOND FORM's CARD OF 'conciergelaw4.NameSearch'. -/
def nameSearchUptoCard : Claim7 := { stood := { row := nameSearchUptoRow, standIns := [], harness := (true, "c314dc94931e98cbe3d4d6eb3692b5707af6bfaaaedeb1473d02d33a5b381758"), looks := true }, kinds := [], alts := [], laidByText := true, laidKinds := [.data, .data, .data, .data, .pinned], laidTests := true, laidLooks := .later }
def NameSearchUptoCardSaid : Prop := Claim7.holds Tryd.pinned (.plain (OpenSpec.upto nameSearchSpec)) nameSearchUptoCard

/-- THE SECOND FORM's CARD OF 'conciergelaw4.NameReverse'. -/
def nameReverseUptoCard : Claim7 := { stood := { row := nameReverseUptoRow, standIns := [], harness := (true, "c314dc94931e98cbe3d4d6eb3692b5707af6bfaaaedeb1473d02d33a5b381758"), looks := true }, kinds := [], alts := [], laidByText := true, laidKinds := [.data, .data, .data, .data, .pinned], laidTests := true, laidLooks := .later }
def NameReverseUptoCardSaid : Prop := Claim7.holds Tryd.pinned (.plain (OpenSpec.upto nameReverseSpec)) nameReverseUptoCard

/-- THE SECOND FORM's CARD OF 'conciergelaw4.NameRooted'. -/
def nameRootedUptoCard : Claim7 := { stood := { row := nameRootedUptoRow, standIns := [], harness := (true, "c314dc94931e98cbe3d4d6eb3692b5707af6bfaaaedeb1473d02d33a5b381758"), looks := true }, kinds := [], alts := [], laidByText := true, laidKinds := [.data, .data, .data, .data, .pinned], laidTests := true, laidLooks := .later }
def NameRootedUptoCardSaid : Prop := Claim7.holds Tryd.pinned (.plain (OpenSpec.upto nameRootedSpec)) nameRootedUptoCard
end Rows
end Go.Proofs.YtkjjidmchepjcaaDoor
