/- The law TopLife: closed facts of its row. -/
import Derived.Test.YtemmgompegkgkaaGreatDoorRows
import Derived.Test.YtemmgompegkgkaaGreatDoorProg
import Derived.ProofKit
import Derived.JoinedOf
import Derived.SevenTiedAt
import Derived.KernelRfl
namespace Go.Proofs.YtemmgompegkgkaaGreatDoor.toplife
set_option linter.unusedVariables false
set_option maxRecDepth 100000 in
theorem cText : Rows.topLifeRow.wfByText (OpenSpec.ofChange Rows.topLifeSpec) = true := by kernel_rfl
end Go.Proofs.YtemmgompegkgkaaGreatDoor.toplife
