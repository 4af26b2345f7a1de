/- The law TopReverse: closed facts of its row. -/
import Derived.Test.YtpficieiefgbfaaGreatDoorRows
import Derived.Test.YtpficieiefgbfaaGreatDoorProg
import Derived.ProofKit
import Derived.JoinedOf
import Derived.SevenTiedAt
import Derived.KernelRfl
namespace Go.Proofs.YtpficieiefgbfaaGreatDoor.topreverse
set_option linter.unusedVariables false
set_option maxRecDepth 100000 in
theorem cText : Rows.topReverseRow.wfByText (OpenSpec.ofChange Rows.topReverseSpec) = true := by kernel_rfl
end Go.Proofs.YtpficieiefgbfaaGreatDoor.topreverse
