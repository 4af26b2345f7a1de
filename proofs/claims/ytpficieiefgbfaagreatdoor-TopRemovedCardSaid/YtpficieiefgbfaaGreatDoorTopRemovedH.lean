/- The law TopRemoved: closed facts of its row. -/
import Derived.Test.YtpficieiefgbfaaGreatDoorRows
import Derived.Test.YtpficieiefgbfaaGreatDoorProg
import Derived.ProofKit
import Derived.JoinedOf
import Derived.SevenTiedAt
import Derived.KernelRfl
namespace Go.Proofs.YtpficieiefgbfaaGreatDoor.topremoved
set_option linter.unusedVariables false
set_option maxRecDepth 100000 in
theorem cText : Rows.topRemovedRow.wfByText (OpenSpec.ofChange Rows.topRemovedSpec) = true := by kernel_rfl
end Go.Proofs.YtpficieiefgbfaaGreatDoor.topremoved
