/- The law TopMerge: closed facts of its row. -/
import Derived.Test.YtpficieiefgbfaaGreatDoorRows
import Derived.Test.YtpficieiefgbfaaGreatDoorProg
import Derived.ProofKit
import Derived.JoinedOf
import Derived.SevenTiedAt
import Derived.KernelRfl
namespace Go.Proofs.YtpficieiefgbfaaGreatDoor.topmerge
set_option linter.unusedVariables false
set_option maxRecDepth 100000 in
theorem cText : Rows.topMergeRow.wfByText (OpenSpec.ofChange Rows.topMergeSpec) = true := by kernel_rfl
end Go.Proofs.YtpficieiefgbfaaGreatDoor.topmerge
