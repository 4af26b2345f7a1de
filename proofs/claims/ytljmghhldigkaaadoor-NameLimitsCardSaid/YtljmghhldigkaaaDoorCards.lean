/-
  DERIVED. GIVEN WITH THE SEED: THE CARDS: each row of YtljmghhldigkaaaDoorRows.lean that lists a variable, with what it lists TIED to the program's text (the seventh form; the later family's looks); each row that meets fmt, with fmt's text TOLD by the authors' own Lean function (tested against real Go, not proved from fmt's source: count such statements apart). THE CARD IS WHAT COUNTS. Prove the row's statement (the work); the ties are given (YtljmghhldigkaaaDoorTie.lean); close each card by the builder's one call (the guide's Derived/Test/ToyasCard.lean, 'card_holds'). Laid BY PROGRAM, IN A SANDBOX (cutbox-door.mjs). By AI agents, Wed Nov 11 2026. No macro, syntax, notation, axiom, sorry.
-/
import Derived.Test.YtljmghhldigkaaaDoorRows
import GoSem.ClaimSeven
namespace Go.Proofs.YtljmghhldigkaaaDoor
namespace Rows

/-- THE TIED CARD OF 'conciergelaw4.NameSearch'. -/
def nameSearchCard : Claim7 := { stood := { row := nameSearchRow, standIns := [], harness := (true, "25272a18ad9f16ad56559ba22beed184f76f4074ab3cca018b31c9cbae16cf59"), looks := false }, kinds := [], alts := [], laidByText := true, laidKinds := [.data, .data, .data, .data, .pinned], laidTests := true, laidLooks := .later }
def NameSearchCardSaid : Prop := Claim7.holds Tryd.pinned (.plain (OpenSpec.ofChange nameSearchSpec)) nameSearchCard

/-- THE TIED CARD OF 'conciergelaw4.NameReverse'. -/
def nameReverseCard : Claim7 := { stood := { row := nameReverseRow, standIns := [], harness := (true, "25272a18ad9f16ad56559ba22beed184f76f4074ab3cca018b31c9cbae16cf59"), looks := false }, kinds := [], alts := [], laidByText := true, laidKinds := [.data, .data, .data, .data, .pinned], laidTests := true, laidLooks := .later }
def NameReverseCardSaid : Prop := Claim7.holds Tryd.pinned (.plain (OpenSpec.ofChange nameReverseSpec)) nameReverseCard

/-- THE TIED CARD OF 'conciergelaw4.NameLimits'. -/
def nameLimitsCard : Claim7 := { stood := { row := nameLimitsRow, standIns := [], harness := (true, "25272a18ad9f16ad56559ba22beed184f76f4074ab3cca018b31c9cbae16cf59"), looks := false }, kinds := [], alts := [], laidByText := true, laidKinds := [.data, .data, .data, .data, .pinned], laidTests := true, laidLooks := .later }
def NameLimitsCardSaid : Prop := Claim7.holds Tryd.pinned (.plain (OpenSpec.ofChange nameLimitsSpec)) nameLimitsCard

/-- THE TIED CARD OF 'conciergelaw4.NameRooted'. -/
def nameRootedCard : Claim7 := { stood := { row := nameRootedRow, standIns := [], harness := (true, "25272a18ad9f16ad56559ba22beed184f76f4074ab3cca018b31c9cbae16cf59"), looks := false }, kinds := [], alts := [], laidByText := true, laidKinds := [.data, .data, .data, .data, .pinned], laidTests := true, laidLooks := .later }
def NameRootedCardSaid : Prop := Claim7.holds Tryd.pinned (.plain (OpenSpec.ofChange nameRootedSpec)) nameRootedCard

/-- THE SECOND FORM's CARD OF 'conciergelaw4.NameSearch'. -/
def nameSearchUptoCard : Claim7 := { stood := { row := nameSearchUptoRow, standIns := [], harness := (true, "25272a18ad9f16ad56559ba22beed184f76f4074ab3cca018b31c9cbae16cf59"), looks := false }, kinds := [], alts := [], laidByText := true, laidKinds := [.data, .data, .data, .data, .pinned], laidTests := true, laidLooks := .later }
def NameSearchUptoCardSaid : Prop := Claim7.holds Tryd.pinned (.plain (OpenSpec.upto nameSearchSpec)) nameSearchUptoCard

/-- THE SECOND FORM's CARD OF 'conciergelaw4.NameReverse'. -/
def nameReverseUptoCard : Claim7 := { stood := { row := nameReverseUptoRow, standIns := [], harness := (true, "25272a18ad9f16ad56559ba22beed184f76f4074ab3cca018b31c9cbae16cf59"), looks := false }, kinds := [], alts := [], laidByText := true, laidKinds := [.data, .data, .data, .data, .pinned], laidTests := true, laidLooks := .later }
def NameReverseUptoCardSaid : Prop := Claim7.holds Tryd.pinned (.plain (OpenSpec.upto nameReverseSpec)) nameReverseUptoCard

/-- THE SECOND FORM's CARD OF 'conciergelaw4.NameLimits'. -/
def nameLimitsUptoCard : Claim7 := { stood := { row := nameLimitsUptoRow, standIns := [], harness := (true, "25272a18ad9f16ad56559ba22beed184f76f4074ab3cca018b31c9cbae16cf59"), looks := false }, kinds := [], alts := [], laidByText := true, laidKinds := [.data, .data, .data, .data, .pinned], laidTests := true, laidLooks := .later }
def NameLimitsUptoCardSaid : Prop := Claim7.holds Tryd.pinned (.plain (OpenSpec.upto nameLimitsSpec)) nameLimitsUptoCard

/-- THE SECOND FORM's CARD OF 'conciergelaw4.NameRooted'. -/
def nameRootedUptoCard : Claim7 := { stood := { row := nameRootedUptoRow, standIns := [], harness := (true, "25272a18ad9f16ad56559ba22beed184f76f4074ab3cca018b31c9cbae16cf59"), looks := false }, kinds := [], alts := [], laidByText := true, laidKinds := [.data, .data, .data, .data, .pinned], laidTests := true, laidLooks := .later }
def NameRootedUptoCardSaid : Prop := Claim7.holds Tryd.pinned (.plain (OpenSpec.upto nameRootedSpec)) nameRootedUptoCard
end Rows
end Go.Proofs.YtljmghhldigkaaaDoor
