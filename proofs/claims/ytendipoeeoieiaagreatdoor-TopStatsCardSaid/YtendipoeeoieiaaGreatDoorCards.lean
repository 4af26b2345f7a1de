/-
  DERIVED. GIVEN WITH THE SEED: THE CARDS: each row of YtendipoeeoieiaaGreatDoorRows.lean that lists a variable, with what it lists TIED to the program's text (the seventh form; the later family's looks); each row that meets fmt, with fmt's text TOLD by the authors' own Lean function (tested against real Go, not proved from fmt's source: count such statements apart). THE CARD IS WHAT COUNTS. Prove the row's statement (the work); the ties are given (YtendipoeeoieiaaGreatDoorTie.lean); close each card by the builder's one call (the guide's Derived/Test/ToyasCard.lean, 'card_holds'). Laid BY PROGRAM, IN A SANDBOX (cutbox-door.mjs). By AI agents, Wed Nov 11 2026. No macro, syntax, notation, axiom, sorry.
-/
import Derived.Test.YtendipoeeoieiaaGreatDoorRows
import GoSem.ClaimSeven
namespace Go.Proofs.YtendipoeeoieiaaGreatDoor
namespace Rows

/-- THE TIED CARD OF 'conciergetop.TopPolicy'. -/
def topPolicyCard : Claim7 := { stood := { row := topPolicyRow, standIns := [], harness := (true, "471b05ce7ec0fa74945d7a431ccf951354dfa106854c3448556dbfcac6035de4"), looks := true }, kinds := [], alts := [], laidByText := true, laidKinds := [.data, .data, .data, .data, .sentinel, .sentinel, .pinned], laidTests := true, laidLooks := .later }
def TopPolicyCardSaid : Prop := Claim7.holds Tryz.pinned (.plain (OpenSpec.ofChange topPolicySpec)) topPolicyCard

/-- THE TIED CARD OF 'conciergetop.TopPanic'. -/
def topPanicCard : Claim7 := { stood := { row := topPanicRow, standIns := [], harness := (true, "471b05ce7ec0fa74945d7a431ccf951354dfa106854c3448556dbfcac6035de4"), looks := true }, kinds := [], alts := [], laidByText := true, laidKinds := [.data, .data, .data, .data, .sentinel, .sentinel, .pinned], laidTests := true, laidLooks := .later }
def TopPanicCardSaid : Prop := Claim7.holds Tryz.pinned (.plain (OpenSpec.ofChange topPanicSpec)) topPanicCard

/-- THE TIED CARD OF 'conciergetop.TopStats'. -/
def topStatsCard : Claim7 := { stood := { row := topStatsRow, standIns := [], harness := (true, "471b05ce7ec0fa74945d7a431ccf951354dfa106854c3448556dbfcac6035de4"), looks := true }, kinds := [], alts := [], laidByText := true, laidKinds := [.data, .data, .data, .data, .sentinel, .sentinel, .pinned], laidTests := true, laidLooks := .later }
def TopStatsCardSaid : Prop := Claim7.holds Tryz.pinned (.plain (OpenSpec.ofChange topStatsSpec)) topStatsCard

/-- THE TIED CARD OF 'conciergetop.TopTimeout'. -/
def topTimeoutCard : Claim7 := { stood := { row := topTimeoutRow, standIns := [], harness := (true, "471b05ce7ec0fa74945d7a431ccf951354dfa106854c3448556dbfcac6035de4"), looks := true }, kinds := [], alts := [], laidByText := true, laidKinds := [.data, .data, .data, .data, .sentinel, .sentinel, .pinned], laidTests := true, laidLooks := .later }
def TopTimeoutCardSaid : Prop := Claim7.holds Tryz.pinned (.plain (OpenSpec.ofChange topTimeoutSpec)) topTimeoutCard

/-- THE TIED CARD OF 'conciergetop.TopIDs'. -/
def topIDsCard : Claim7 := { stood := { row := topIDsRow, standIns := [], harness := (true, "471b05ce7ec0fa74945d7a431ccf951354dfa106854c3448556dbfcac6035de4"), looks := true }, kinds := [], alts := [], laidByText := true, laidKinds := [.data, .data, .data, .data, .sentinel, .sentinel, .pinned], laidTests := true, laidLooks := .later }
def TopIDsCardSaid : Prop := Claim7.holds Tryz.pinned (.plain (OpenSpec.ofChange topIDsSpec)) topIDsCard

/-- THE SECOND FORM's CARD OF 'conciergetop.TopPolicy'. -/
def topPolicyUptoCard : Claim7 := { stood := { row := topPolicyUptoRow, standIns := [], harness := (true, "471b05ce7ec0fa74945d7a431ccf951354dfa106854c3448556dbfcac6035de4"), looks := true }, kinds := [], alts := [], laidByText := true, laidKinds := [.data, .data, .data, .data, .sentinel, .sentinel, .pinned], laidTests := true, laidLooks := .later }
def TopPolicyUptoCardSaid : Prop := Claim7.holds Tryz.pinned (.plain (OpenSpec.upto topPolicySpec)) topPolicyUptoCard

/-- THE SECOND FORM's CARD OF 'conciergetop.TopPanic'. -/
def topPanicUptoCard : Claim7 := { stood := { row := topPanicUptoRow, standIns := [], harness := (true, "471b05ce7ec0fa74945d7a431ccf951354dfa106854c3448556dbfcac6035de4"), looks := true }, kinds := [], alts := [], laidByText := true, laidKinds := [.data, .data, .data, .data, .sentinel, .sentinel, .pinned], laidTests := true, laidLooks := .later }
def TopPanicUptoCardSaid : Prop := Claim7.holds Tryz.pinned (.plain (OpenSpec.upto topPanicSpec)) topPanicUptoCard

/-- THE SECOND FORM's CARD OF 'conciergetop.TopStats'. -/
def topStatsUptoCard : Claim7 := { stood := { row := topStatsUptoRow, standIns := [], harness := (true, "471b05ce7ec0fa74945d7a431ccf951354dfa106854c3448556dbfcac6035de4"), looks := true }, kinds := [], alts := [], laidByText := true, laidKinds := [.data, .data, .data, .data, .sentinel, .sentinel, .pinned], laidTests := true, laidLooks := .later }
def TopStatsUptoCardSaid : Prop := Claim7.holds Tryz.pinned (.plain (OpenSpec.upto topStatsSpec)) topStatsUptoCard

/-- THE SECOND FORM's CARD OF 'conciergetop.TopTimeout'. -/
def topTimeoutUptoCard : Claim7 := { stood := { row := topTimeoutUptoRow, standIns := [], harness := (true, "471b05ce7ec0fa74945d7a431ccf951354dfa106854c3448556dbfcac6035de4"), looks := true }, kinds := [], alts := [], laidByText := true, laidKinds := [.data, .data, .data, .data, .sentinel, .sentinel, .pinned], laidTests := true, laidLooks := .later }
def TopTimeoutUptoCardSaid : Prop := Claim7.holds Tryz.pinned (.plain (OpenSpec.upto topTimeoutSpec)) topTimeoutUptoCard

/-- THE SECOND FORM's CARD OF 'conciergetop.TopIDs'. -/
def topIDsUptoCard : Claim7 := { stood := { row := topIDsUptoRow, standIns := [], harness := (true, "471b05ce7ec0fa74945d7a431ccf951354dfa106854c3448556dbfcac6035de4"), looks := true }, kinds := [], alts := [], laidByText := true, laidKinds := [.data, .data, .data, .data, .sentinel, .sentinel, .pinned], laidTests := true, laidLooks := .later }
def TopIDsUptoCardSaid : Prop := Claim7.holds Tryz.pinned (.plain (OpenSpec.upto topIDsSpec)) topIDsUptoCard
end Rows
end Go.Proofs.YtendipoeeoieiaaGreatDoor
