/-
  DERIVED. GIVEN WITH THE SEED: THE CARDS: each row of YtbdffkecbgbapaaDoorRows.lean that lists a variable, with what it lists TIED to the program's text (the seventh form; the later family's looks); each row that meets fmt, with fmt's text TOLD by the authors' own Lean function (tested against real Go, not proved from fmt's source: count such statements apart). THE CARD IS WHAT COUNTS. Prove the row's statement (the work); the ties are given (YtbdffkecbgbapaaDoorTie.lean); close each card by the builder's one call (the guide's Derived/Test/ToyasCard.lean, 'card_holds'). Laid BY PROGRAM, IN A SANDBOX (cutbox-door.mjs). By AI agents, Wed Nov 11 2026. No macro, syntax, notation, axiom, sorry.
-/
import Derived.Test.YtbdffkecbgbapaaDoorRows
import GoSem.ClaimSeven
namespace Go.Proofs.YtbdffkecbgbapaaDoor
namespace Rows

/-- THE TIED CARD OF 'conciergelaw5.WirePointers'. -/
def wirePointersCard : Claim7 := { stood := { row := wirePointersRow, standIns := [], harness := (true, "c181f26dd92dae8db9d492f4ef5f648df9cd62fafc45fb44d03196f6b2c35f15"), looks := true }, kinds := [], alts := [], laidByText := true, laidKinds := [.data, .pinned], laidTests := true, laidLooks := .later }
def WirePointersCardSaid : Prop := Claim7.holds Tryd.pinned (.plain (OpenSpec.ofChange wirePointersSpec)) wirePointersCard

/-- THE TIED CARD OF 'conciergelaw5.WireBehind'. -/
def wireBehindCard : Claim7 := { stood := { row := wireBehindRow, standIns := [], harness := (true, "c181f26dd92dae8db9d492f4ef5f648df9cd62fafc45fb44d03196f6b2c35f15"), looks := true }, kinds := [], alts := [], laidByText := true, laidKinds := [.data, .pinned], laidTests := true, laidLooks := .later }
def WireBehindCardSaid : Prop := Claim7.holds Tryd.pinned (.plain (OpenSpec.ofChange wireBehindSpec)) wireBehindCard

/-- THE TIED CARD OF 'conciergelaw5.WireCode'. -/
def wireCodeCard : Claim7 := { stood := { row := wireCodeRow, standIns := [], harness := (true, "c181f26dd92dae8db9d492f4ef5f648df9cd62fafc45fb44d03196f6b2c35f15"), looks := true }, kinds := [], alts := [], laidByText := true, laidKinds := [.data, .pinned], laidTests := true, laidLooks := .later }
def WireCodeCardSaid : Prop := Claim7.holds Tryd.pinned (.plain (OpenSpec.ofChange wireCodeSpec)) wireCodeCard

/-- THE TIED CARD OF 'conciergelaw5.WireDecode'. -/
def wireDecodeCard : Claim7 := { stood := { row := wireDecodeRow, standIns := [], harness := (true, "c181f26dd92dae8db9d492f4ef5f648df9cd62fafc45fb44d03196f6b2c35f15"), looks := true }, kinds := [], alts := [], laidByText := true, laidKinds := [.data, .pinned], laidTests := true, laidLooks := .later }
def WireDecodeCardSaid : Prop := Claim7.holds Tryd.pinned (.plain (OpenSpec.ofChange wireDecodeSpec)) wireDecodeCard

/-- THE TIED CARD OF 'conciergelaw5.WireShort'. -/
def wireShortCard : Claim7 := { stood := { row := wireShortRow, standIns := [], harness := (true, "c181f26dd92dae8db9d492f4ef5f648df9cd62fafc45fb44d03196f6b2c35f15"), looks := true }, kinds := [], alts := [], laidByText := true, laidKinds := [.data, .pinned], laidTests := true, laidLooks := .later }
def WireShortCardSaid : Prop := Claim7.holds Tryd.pinned (.plain (OpenSpec.ofChange wireShortSpec)) wireShortCard

/-- THE SECOND FORM's CARD OF 'conciergelaw5.WirePointers'. -/
def wirePointersUptoCard : Claim7 := { stood := { row := wirePointersUptoRow, standIns := [], harness := (true, "c181f26dd92dae8db9d492f4ef5f648df9cd62fafc45fb44d03196f6b2c35f15"), looks := true }, kinds := [], alts := [], laidByText := true, laidKinds := [.data, .pinned], laidTests := true, laidLooks := .later }
def WirePointersUptoCardSaid : Prop := Claim7.holds Tryd.pinned (.plain (OpenSpec.upto wirePointersSpec)) wirePointersUptoCard

/-- THE SECOND FORM's CARD OF 'conciergelaw5.WireBehind'. -/
def wireBehindUptoCard : Claim7 := { stood := { row := wireBehindUptoRow, standIns := [], harness := (true, "c181f26dd92dae8db9d492f4ef5f648df9cd62fafc45fb44d03196f6b2c35f15"), looks := true }, kinds := [], alts := [], laidByText := true, laidKinds := [.data, .pinned], laidTests := true, laidLooks := .later }
def WireBehindUptoCardSaid : Prop := Claim7.holds Tryd.pinned (.plain (OpenSpec.upto wireBehindSpec)) wireBehindUptoCard

/-- THE SECOND FORM's CARD OF 'conciergelaw5.WireCode'. -/
def wireCodeUptoCard : Claim7 := { stood := { row := wireCodeUptoRow, standIns := [], harness := (true, "c181f26dd92dae8db9d492f4ef5f648df9cd62fafc45fb44d03196f6b2c35f15"), looks := true }, kinds := [], alts := [], laidByText := true, laidKinds := [.data, .pinned], laidTests := true, laidLooks := .later }
def WireCodeUptoCardSaid : Prop := Claim7.holds Tryd.pinned (.plain (OpenSpec.upto wireCodeSpec)) wireCodeUptoCard

/-- THE SECOND FORM's CARD OF 'conciergelaw5.WireDecode'. -/
def wireDecodeUptoCard : Claim7 := { stood := { row := wireDecodeUptoRow, standIns := [], harness := (true, "c181f26dd92dae8db9d492f4ef5f648df9cd62fafc45fb44d03196f6b2c35f15"), looks := true }, kinds := [], alts := [], laidByText := true, laidKinds := [.data, .pinned], laidTests := true, laidLooks := .later }
def WireDecodeUptoCardSaid : Prop := Claim7.holds Tryd.pinned (.plain (OpenSpec.upto wireDecodeSpec)) wireDecodeUptoCard

/-- THE SECOND FORM's CARD OF 'conciergelaw5.WireShort'. -/
def wireShortUptoCard : Claim7 := { stood := { row := wireShortUptoRow, standIns := [], harness := (true, "c181f26dd92dae8db9d492f4ef5f648df9cd62fafc45fb44d03196f6b2c35f15"), looks := true }, kinds := [], alts := [], laidByText := true, laidKinds := [.data, .pinned], laidTests := true, laidLooks := .later }
def WireShortUptoCardSaid : Prop := Claim7.holds Tryd.pinned (.plain (OpenSpec.upto wireShortSpec)) wireShortUptoCard
end Rows
end Go.Proofs.YtbdffkecbgbapaaDoor
