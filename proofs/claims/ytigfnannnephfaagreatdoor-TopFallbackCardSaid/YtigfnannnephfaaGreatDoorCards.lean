/-
  DERIVED. GIVEN WITH THE SEED: THE CARDS: each row of YtigfnannnephfaaGreatDoorRows.lean that lists a variable, with what it lists TIED to the program's text (the seventh form; the later family's looks); each row that meets fmt, with fmt's text TOLD by the authors' own Lean function (tested against real Go, not proved from fmt's source: count such statements apart). THE CARD IS WHAT COUNTS. Prove the row's statement (the work); the ties are given (YtigfnannnephfaaGreatDoorTie.lean); close each card by the builder's one call (the guide's Derived/Test/ToyasCard.lean, 'card_holds'). Laid BY PROGRAM, IN A SANDBOX (cutbox-door.mjs). By AI agents, Wed Nov 11 2026. No macro, syntax, notation, axiom, sorry.
-/
import Derived.Test.YtigfnannnephfaaGreatDoorRows
import GoSem.ClaimSeven
namespace Go.Proofs.YtigfnannnephfaaGreatDoor
namespace Rows

/-- THE TIED CARD OF 'conciergetop.TopFallback'. -/
def topFallbackCard : Claim7 := { stood := { row := topFallbackRow, standIns := [], harness := (true, "b602d2ee67ad10cc7ac5fb27aa4b14284b037aa0124fb3a06f9414aa23181c2a"), looks := true }, kinds := [], alts := [], laidByText := true, laidKinds := [.data, .data, .data, .data, .sentinel, .sentinel, .pinned], laidTests := true, laidLooks := .later }
def TopFallbackCardSaid : Prop := Claim7.holds Tryz.pinned (.plain (OpenSpec.ofChange topFallbackSpec)) topFallbackCard

/-- THE TIED CARD OF 'conciergetop.TopNoChain'. -/
def topNoChainCard : Claim7 := { stood := { row := topNoChainRow, standIns := [], harness := (true, "b602d2ee67ad10cc7ac5fb27aa4b14284b037aa0124fb3a06f9414aa23181c2a"), looks := true }, kinds := [], alts := [], laidByText := true, laidKinds := [.data, .data, .data, .data, .sentinel, .sentinel, .pinned], laidTests := true, laidLooks := .later }
def TopNoChainCardSaid : Prop := Claim7.holds Tryz.pinned (.plain (OpenSpec.ofChange topNoChainSpec)) topNoChainCard

/-- THE SECOND FORM's CARD OF 'conciergetop.TopFallback'. -/
def topFallbackUptoCard : Claim7 := { stood := { row := topFallbackUptoRow, standIns := [], harness := (true, "b602d2ee67ad10cc7ac5fb27aa4b14284b037aa0124fb3a06f9414aa23181c2a"), looks := true }, kinds := [], alts := [], laidByText := true, laidKinds := [.data, .data, .data, .data, .sentinel, .sentinel, .pinned], laidTests := true, laidLooks := .later }
def TopFallbackUptoCardSaid : Prop := Claim7.holds Tryz.pinned (.plain (OpenSpec.upto topFallbackSpec)) topFallbackUptoCard

/-- THE SECOND FORM's CARD OF 'conciergetop.TopNoChain'. -/
def topNoChainUptoCard : Claim7 := { stood := { row := topNoChainUptoRow, standIns := [], harness := (true, "b602d2ee67ad10cc7ac5fb27aa4b14284b037aa0124fb3a06f9414aa23181c2a"), looks := true }, kinds := [], alts := [], laidByText := true, laidKinds := [.data, .data, .data, .data, .sentinel, .sentinel, .pinned], laidTests := true, laidLooks := .later }
def TopNoChainUptoCardSaid : Prop := Claim7.holds Tryz.pinned (.plain (OpenSpec.upto topNoChainSpec)) topNoChainUptoCard
end Rows
end Go.Proofs.YtigfnannnephfaaGreatDoor
