/-
  DERIVED. GIVEN WITH THE SEED: THE CARDS: each row of YtemmgompegkgkaaGreatDoorRows.lean that lists a variable, with what it lists TIED to the program's text (the seventh form; the later family's looks); each row that meets fmt, with fmt's text TOLD by the authors' own Lean function (tested against real Go, not proved from fmt's source: count such statements apart). THE CARD IS WHAT COUNTS. Prove the row's statement (the work); the ties are given (YtemmgompegkgkaaGreatDoorTie.lean); close each card by the builder's one call (the guide's Derived/Test/ToyasCard.lean, 'card_holds'). Laid BY PROGRAM, IN A SANDBOX (cutbox-door.mjs). By AI agents, Wed Nov 11 2026. No macro, syntax, notation, axiom, sorry.
-/
import Derived.Test.YtemmgompegkgkaaGreatDoorRows
import GoSem.ClaimSeven
namespace Go.Proofs.YtemmgompegkgkaaGreatDoor
namespace Rows

/-- THE TIED CARD OF 'conciergetop.TopLasts'. -/
def topLastsCard : Claim7 := { stood := { row := topLastsRow, standIns := [], harness := (true, "6e945fde472b169eae9fd522baa2eada81a12cc5a62fde05d3471a05be40f119"), looks := true }, kinds := [], alts := [], laidByText := true, laidKinds := [.data, .data, .data, .data, .sentinel, .sentinel, .pinned], laidTests := true, laidLooks := .later }
def TopLastsCardSaid : Prop := Claim7.holds Tryz.pinned (.plain (OpenSpec.ofChange topLastsSpec)) topLastsCard

/-- THE TIED CARD OF 'conciergetop.TopSpoof'. -/
def topSpoofCard : Claim7 := { stood := { row := topSpoofRow, standIns := [], harness := (true, "6e945fde472b169eae9fd522baa2eada81a12cc5a62fde05d3471a05be40f119"), looks := true }, kinds := [], alts := [], laidByText := true, laidKinds := [.data, .data, .data, .data, .sentinel, .sentinel, .pinned], laidTests := true, laidLooks := .later }
def TopSpoofCardSaid : Prop := Claim7.holds Tryz.pinned (.plain (OpenSpec.ofChange topSpoofSpec)) topSpoofCard

/-- THE TIED CARD OF 'conciergetop.TopLife'. -/
def topLifeCard : Claim7 := { stood := { row := topLifeRow, standIns := [], harness := (true, "6e945fde472b169eae9fd522baa2eada81a12cc5a62fde05d3471a05be40f119"), looks := true }, kinds := [], alts := [], laidByText := true, laidKinds := [.data, .data, .data, .data, .sentinel, .sentinel, .pinned], laidTests := true, laidLooks := .later }
def TopLifeCardSaid : Prop := Claim7.holds Tryz.pinned (.plain (OpenSpec.ofChange topLifeSpec)) topLifeCard

/-- THE TIED CARD OF 'conciergetop.TopServices'. -/
def topServicesCard : Claim7 := { stood := { row := topServicesRow, standIns := [], harness := (true, "6e945fde472b169eae9fd522baa2eada81a12cc5a62fde05d3471a05be40f119"), looks := true }, kinds := [], alts := [], laidByText := true, laidKinds := [.data, .data, .data, .data, .sentinel, .sentinel, .pinned], laidTests := true, laidLooks := .later }
def TopServicesCardSaid : Prop := Claim7.holds Tryz.pinned (.plain (OpenSpec.ofChange topServicesSpec)) topServicesCard

/-- THE TIED CARD OF 'conciergetop.TopFolded'. -/
def topFoldedCard : Claim7 := { stood := { row := topFoldedRow, standIns := [], harness := (true, "6e945fde472b169eae9fd522baa2eada81a12cc5a62fde05d3471a05be40f119"), looks := true }, kinds := [], alts := [], laidByText := true, laidKinds := [.data, .data, .data, .data, .sentinel, .sentinel, .pinned], laidTests := true, laidLooks := .later }
def TopFoldedCardSaid : Prop := Claim7.holds Tryz.pinned (.plain (OpenSpec.ofChange topFoldedSpec)) topFoldedCard

/-- THE SECOND FORM's CARD OF 'conciergetop.TopLasts'. -/
def topLastsUptoCard : Claim7 := { stood := { row := topLastsUptoRow, standIns := [], harness := (true, "6e945fde472b169eae9fd522baa2eada81a12cc5a62fde05d3471a05be40f119"), looks := true }, kinds := [], alts := [], laidByText := true, laidKinds := [.data, .data, .data, .data, .sentinel, .sentinel, .pinned], laidTests := true, laidLooks := .later }
def TopLastsUptoCardSaid : Prop := Claim7.holds Tryz.pinned (.plain (OpenSpec.upto topLastsSpec)) topLastsUptoCard

/-- THE SECOND FORM's CARD OF 'conciergetop.TopSpoof'. -/
def topSpoofUptoCard : Claim7 := { stood := { row := topSpoofUptoRow, standIns := [], harness := (true, "6e945fde472b169eae9fd522baa2eada81a12cc5a62fde05d3471a05be40f119"), looks := true }, kinds := [], alts := [], laidByText := true, laidKinds := [.data, .data, .data, .data, .sentinel, .sentinel, .pinned], laidTests := true, laidLooks := .later }
def TopSpoofUptoCardSaid : Prop := Claim7.holds Tryz.pinned (.plain (OpenSpec.upto topSpoofSpec)) topSpoofUptoCard

/-- THE SECOND FORM's CARD OF 'conciergetop.TopLife'. -/
def topLifeUptoCard : Claim7 := { stood := { row := topLifeUptoRow, standIns := [], harness := (true, "6e945fde472b169eae9fd522baa2eada81a12cc5a62fde05d3471a05be40f119"), looks := true }, kinds := [], alts := [], laidByText := true, laidKinds := [.data, .data, .data, .data, .sentinel, .sentinel, .pinned], laidTests := true, laidLooks := .later }
def TopLifeUptoCardSaid : Prop := Claim7.holds Tryz.pinned (.plain (OpenSpec.upto topLifeSpec)) topLifeUptoCard

/-- THE SECOND FORM's CARD OF 'conciergetop.TopServices'. -/
def topServicesUptoCard : Claim7 := { stood := { row := topServicesUptoRow, standIns := [], harness := (true, "6e945fde472b169eae9fd522baa2eada81a12cc5a62fde05d3471a05be40f119"), looks := true }, kinds := [], alts := [], laidByText := true, laidKinds := [.data, .data, .data, .data, .sentinel, .sentinel, .pinned], laidTests := true, laidLooks := .later }
def TopServicesUptoCardSaid : Prop := Claim7.holds Tryz.pinned (.plain (OpenSpec.upto topServicesSpec)) topServicesUptoCard

/-- THE SECOND FORM's CARD OF 'conciergetop.TopFolded'. -/
def topFoldedUptoCard : Claim7 := { stood := { row := topFoldedUptoRow, standIns := [], harness := (true, "6e945fde472b169eae9fd522baa2eada81a12cc5a62fde05d3471a05be40f119"), looks := true }, kinds := [], alts := [], laidByText := true, laidKinds := [.data, .data, .data, .data, .sentinel, .sentinel, .pinned], laidTests := true, laidLooks := .later }
def TopFoldedUptoCardSaid : Prop := Claim7.holds Tryz.pinned (.plain (OpenSpec.upto topFoldedSpec)) topFoldedUptoCard
end Rows
end Go.Proofs.YtemmgompegkgkaaGreatDoor
