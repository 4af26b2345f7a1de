/-
  DERIVED. GIVEN WITH THE SEED: THE CARDS: each row of YtpficieiefgbfaaGreatDoorRows.lean that lists a variable, with what it lists TIED to the program's text (the seventh form; the later family's looks); each row that meets fmt, with fmt's text TOLD by the authors' own Lean function (tested against real Go, not proved from fmt's source: count such statements apart). THE CARD IS WHAT COUNTS. Prove the row's statement (the work); the ties are given (YtpficieiefgbfaaGreatDoorTie.lean); close each card by the builder's one call (the guide's Derived/Test/ToyasCard.lean, 'card_holds'). Laid BY PROGRAM, IN A SANDBOX (cutbox-door.mjs). By AI agents, Wed Nov 11 2026. No macro, syntax, notation, axiom, sorry.
-/
import Derived.Test.YtpficieiefgbfaaGreatDoorRows
import GoSem.ClaimSeven
namespace Go.Proofs.YtpficieiefgbfaaGreatDoor
namespace Rows

/-- THE TIED CARD OF 'conciergetop.TopReverse'. -/
def topReverseCard : Claim7 := { stood := { row := topReverseRow, standIns := [], harness := (true, "6cf8229b689b0448856056dd4b339509460a15b5fedd38ccc96de598f7b58c1a"), looks := true }, kinds := [], alts := [], laidByText := true, laidKinds := [.data, .data, .data, .data, .sentinel, .sentinel, .pinned], laidTests := true, laidLooks := .later }
def TopReverseCardSaid : Prop := Claim7.holds Tryz.pinned (.plain (OpenSpec.ofChange topReverseSpec)) topReverseCard

/-- THE TIED CARD OF 'conciergetop.TopRemoved'. -/
def topRemovedCard : Claim7 := { stood := { row := topRemovedRow, standIns := [], harness := (true, "6cf8229b689b0448856056dd4b339509460a15b5fedd38ccc96de598f7b58c1a"), looks := true }, kinds := [], alts := [], laidByText := true, laidKinds := [.data, .data, .data, .data, .sentinel, .sentinel, .pinned], laidTests := true, laidLooks := .later }
def TopRemovedCardSaid : Prop := Claim7.holds Tryz.pinned (.plain (OpenSpec.ofChange topRemovedSpec)) topRemovedCard

/-- THE TIED CARD OF 'conciergetop.TopFiles'. -/
def topFilesCard : Claim7 := { stood := { row := topFilesRow, standIns := [], harness := (true, "6cf8229b689b0448856056dd4b339509460a15b5fedd38ccc96de598f7b58c1a"), looks := true }, kinds := [], alts := [], laidByText := true, laidKinds := [.data, .data, .data, .data, .sentinel, .sentinel, .pinned], laidTests := true, laidLooks := .later }
def TopFilesCardSaid : Prop := Claim7.holds Tryz.pinned (.plain (OpenSpec.ofChange topFilesSpec)) topFilesCard

/-- THE TIED CARD OF 'conciergetop.TopMerge'. -/
def topMergeCard : Claim7 := { stood := { row := topMergeRow, standIns := [], harness := (true, "6cf8229b689b0448856056dd4b339509460a15b5fedd38ccc96de598f7b58c1a"), looks := true }, kinds := [], alts := [], laidByText := true, laidKinds := [.data, .data, .data, .data, .sentinel, .sentinel, .pinned], laidTests := true, laidLooks := .later }
def TopMergeCardSaid : Prop := Claim7.holds Tryz.pinned (.plain (OpenSpec.ofChange topMergeSpec)) topMergeCard

/-- THE TIED CARD OF 'conciergetop.TopDepends'. -/
def topDependsCard : Claim7 := { stood := { row := topDependsRow, standIns := [], harness := (true, "6cf8229b689b0448856056dd4b339509460a15b5fedd38ccc96de598f7b58c1a"), looks := true }, kinds := [], alts := [], laidByText := true, laidKinds := [.data, .data, .data, .data, .sentinel, .sentinel, .pinned], laidTests := true, laidLooks := .later }
def TopDependsCardSaid : Prop := Claim7.holds Tryz.pinned (.plain (OpenSpec.ofChange topDependsSpec)) topDependsCard

/-- THE SECOND FORM's CARD OF 'conciergetop.TopReverse'. -/
def topReverseUptoCard : Claim7 := { stood := { row := topReverseUptoRow, standIns := [], harness := (true, "6cf8229b689b0448856056dd4b339509460a15b5fedd38ccc96de598f7b58c1a"), looks := true }, kinds := [], alts := [], laidByText := true, laidKinds := [.data, .data, .data, .data, .sentinel, .sentinel, .pinned], laidTests := true, laidLooks := .later }
def TopReverseUptoCardSaid : Prop := Claim7.holds Tryz.pinned (.plain (OpenSpec.upto topReverseSpec)) topReverseUptoCard

/-- THE SECOND FORM's CARD OF 'conciergetop.TopRemoved'. -/
def topRemovedUptoCard : Claim7 := { stood := { row := topRemovedUptoRow, standIns := [], harness := (true, "6cf8229b689b0448856056dd4b339509460a15b5fedd38ccc96de598f7b58c1a"), looks := true }, kinds := [], alts := [], laidByText := true, laidKinds := [.data, .data, .data, .data, .sentinel, .sentinel, .pinned], laidTests := true, laidLooks := .later }
def TopRemovedUptoCardSaid : Prop := Claim7.holds Tryz.pinned (.plain (OpenSpec.upto topRemovedSpec)) topRemovedUptoCard

/-- THE SECOND FORM's CARD OF 'conciergetop.TopFiles'. -/
def topFilesUptoCard : Claim7 := { stood := { row := topFilesUptoRow, standIns := [], harness := (true, "6cf8229b689b0448856056dd4b339509460a15b5fedd38ccc96de598f7b58c1a"), looks := true }, kinds := [], alts := [], laidByText := true, laidKinds := [.data, .data, .data, .data, .sentinel, .sentinel, .pinned], laidTests := true, laidLooks := .later }
def TopFilesUptoCardSaid : Prop := Claim7.holds Tryz.pinned (.plain (OpenSpec.upto topFilesSpec)) topFilesUptoCard

/-- THE SECOND FORM's CARD OF 'conciergetop.TopMerge'. -/
def topMergeUptoCard : Claim7 := { stood := { row := topMergeUptoRow, standIns := [], harness := (true, "6cf8229b689b0448856056dd4b339509460a15b5fedd38ccc96de598f7b58c1a"), looks := true }, kinds := [], alts := [], laidByText := true, laidKinds := [.data, .data, .data, .data, .sentinel, .sentinel, .pinned], laidTests := true, laidLooks := .later }
def TopMergeUptoCardSaid : Prop := Claim7.holds Tryz.pinned (.plain (OpenSpec.upto topMergeSpec)) topMergeUptoCard

/-- THE SECOND FORM's CARD OF 'conciergetop.TopDepends'. -/
def topDependsUptoCard : Claim7 := { stood := { row := topDependsUptoRow, standIns := [], harness := (true, "6cf8229b689b0448856056dd4b339509460a15b5fedd38ccc96de598f7b58c1a"), looks := true }, kinds := [], alts := [], laidByText := true, laidKinds := [.data, .data, .data, .data, .sentinel, .sentinel, .pinned], laidTests := true, laidLooks := .later }
def TopDependsUptoCardSaid : Prop := Claim7.holds Tryz.pinned (.plain (OpenSpec.upto topDependsSpec)) topDependsUptoCard
end Rows
end Go.Proofs.YtpficieiefgbfaaGreatDoor
