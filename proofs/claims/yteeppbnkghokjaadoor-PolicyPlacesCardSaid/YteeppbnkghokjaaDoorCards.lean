/-
  DERIVED. GIVEN WITH THE SEED: THE CARDS: each row of YteeppbnkghokjaaDoorRows.lean that lists a variable, with what it lists TIED to the program's text (the seventh form; the later family's looks); each row that meets fmt, with fmt's text TOLD by the authors' own Lean function (tested against real Go, not proved from fmt's source: count such statements apart). THE CARD IS WHAT COUNTS. Prove the row's statement (the work); the ties are given (YteeppbnkghokjaaDoorTie.lean); close each card by the builder's one call (the guide's Derived/Test/ToyasCard.lean, 'card_holds'). Laid BY PROGRAM, IN A SANDBOX (cutbox-door.mjs). By AI agents, Wed Nov 11 2026. No macro, syntax, notation, axiom, sorry.
-/
import Derived.Test.YteeppbnkghokjaaDoorRows
import GoSem.ClaimSeven
namespace Go.Proofs.YteeppbnkghokjaaDoor
namespace Rows

/-- THE TIED CARD OF 'conciergelaw10.PolicyParse'. -/
def policyParseCard : Claim7 := { stood := { row := policyParseRow, standIns := [], harness := (true, "6d8a4965c56e3c1ff8a7a3177bb22b23f0ca1df52a2065121cad9d1bceef06ee"), looks := true }, kinds := [], alts := [], laidByText := true, laidKinds := [.data, .pinned, .pinned], laidTests := true, laidLooks := .later }
def PolicyParseCardSaid : Prop := Claim7.holds Tryd.pinned (.plain (OpenSpec.ofChange policyParseSpec)) policyParseCard

/-- THE TIED CARD OF 'conciergelaw10.PolicyRules'. -/
def policyRulesCard : Claim7 := { stood := { row := policyRulesRow, standIns := [], harness := (true, "6d8a4965c56e3c1ff8a7a3177bb22b23f0ca1df52a2065121cad9d1bceef06ee"), looks := true }, kinds := [], alts := [], laidByText := true, laidKinds := [.data, .pinned, .pinned], laidTests := true, laidLooks := .later }
def PolicyRulesCardSaid : Prop := Claim7.holds Tryd.pinned (.plain (OpenSpec.ofChange policyRulesSpec)) policyRulesCard

/-- THE TIED CARD OF 'conciergelaw10.PolicyPlaces'. -/
def policyPlacesCard : Claim7 := { stood := { row := policyPlacesRow, standIns := [], harness := (true, "6d8a4965c56e3c1ff8a7a3177bb22b23f0ca1df52a2065121cad9d1bceef06ee"), looks := true }, kinds := [], alts := [], laidByText := true, laidKinds := [.data, .pinned, .pinned], laidTests := true, laidLooks := .later }
def PolicyPlacesCardSaid : Prop := Claim7.holds Tryd.pinned (.plain (OpenSpec.ofChange policyPlacesSpec)) policyPlacesCard

/-- THE TIED CARD OF 'conciergelaw10.PolicyOrder'. -/
def policyOrderCard : Claim7 := { stood := { row := policyOrderRow, standIns := [], harness := (true, "6d8a4965c56e3c1ff8a7a3177bb22b23f0ca1df52a2065121cad9d1bceef06ee"), looks := true }, kinds := [], alts := [], laidByText := true, laidKinds := [.data, .pinned, .pinned], laidTests := true, laidLooks := .later }
def PolicyOrderCardSaid : Prop := Claim7.holds Tryd.pinned (.plain (OpenSpec.ofChange policyOrderSpec)) policyOrderCard

/-- THE SECOND FORM's CARD OF 'conciergelaw10.PolicyParse'. -/
def policyParseUptoCard : Claim7 := { stood := { row := policyParseUptoRow, standIns := [], harness := (true, "6d8a4965c56e3c1ff8a7a3177bb22b23f0ca1df52a2065121cad9d1bceef06ee"), looks := true }, kinds := [], alts := [], laidByText := true, laidKinds := [.data, .pinned, .pinned], laidTests := true, laidLooks := .later }
def PolicyParseUptoCardSaid : Prop := Claim7.holds Tryd.pinned (.plain (OpenSpec.upto policyParseSpec)) policyParseUptoCard

/-- THE SECOND FORM's CARD OF 'conciergelaw10.PolicyRules'. -/
def policyRulesUptoCard : Claim7 := { stood := { row := policyRulesUptoRow, standIns := [], harness := (true, "6d8a4965c56e3c1ff8a7a3177bb22b23f0ca1df52a2065121cad9d1bceef06ee"), looks := true }, kinds := [], alts := [], laidByText := true, laidKinds := [.data, .pinned, .pinned], laidTests := true, laidLooks := .later }
def PolicyRulesUptoCardSaid : Prop := Claim7.holds Tryd.pinned (.plain (OpenSpec.upto policyRulesSpec)) policyRulesUptoCard

/-- THE SECOND FORM's CARD OF 'conciergelaw10.PolicyPlaces'. -/
def policyPlacesUptoCard : Claim7 := { stood := { row := policyPlacesUptoRow, standIns := [], harness := (true, "6d8a4965c56e3c1ff8a7a3177bb22b23f0ca1df52a2065121cad9d1bceef06ee"), looks := true }, kinds := [], alts := [], laidByText := true, laidKinds := [.data, .pinned, .pinned], laidTests := true, laidLooks := .later }
def PolicyPlacesUptoCardSaid : Prop := Claim7.holds Tryd.pinned (.plain (OpenSpec.upto policyPlacesSpec)) policyPlacesUptoCard

/-- THE SECOND FORM's CARD OF 'conciergelaw10.PolicyOrder'. -/
def policyOrderUptoCard : Claim7 := { stood := { row := policyOrderUptoRow, standIns := [], harness := (true, "6d8a4965c56e3c1ff8a7a3177bb22b23f0ca1df52a2065121cad9d1bceef06ee"), looks := true }, kinds := [], alts := [], laidByText := true, laidKinds := [.data, .pinned, .pinned], laidTests := true, laidLooks := .later }
def PolicyOrderUptoCardSaid : Prop := Claim7.holds Tryd.pinned (.plain (OpenSpec.upto policyOrderSpec)) policyOrderUptoCard
end Rows
end Go.Proofs.YteeppbnkghokjaaDoor
