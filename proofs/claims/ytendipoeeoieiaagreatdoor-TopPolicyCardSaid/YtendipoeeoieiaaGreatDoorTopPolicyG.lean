/- The law TopPolicy: closed facts of its row. -/
import Derived.Test.YtendipoeeoieiaaGreatDoorRows
import Derived.Test.YtendipoeeoieiaaGreatDoorProg
import Derived.ProofKit
import Derived.JoinedOf
import Derived.SevenTiedAt
import Derived.KernelRfl
namespace Go.Proofs.YtendipoeeoieiaaGreatDoor.toppolicy
set_option linter.unusedVariables false
set_option maxRecDepth 100000 in
theorem cGoes : false = Rows.topPolicyRow.goesBy Tryz.prog := by kernel_rfl
set_option maxRecDepth 100000 in
theorem cText : Rows.topPolicyRow.wfByText (OpenSpec.ofChange Rows.topPolicySpec) = true := by kernel_rfl
end Go.Proofs.YtendipoeeoieiaaGreatDoor.toppolicy
