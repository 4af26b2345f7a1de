/- Closed facts of the program: its main package. -/
import Derived.Test.YtpficieiefgbfaaGreatDoorRows
import Derived.Test.YtpficieiefgbfaaGreatDoorProg
import Derived.ProofKit
import Derived.JoinedOf
import Derived.SevenTiedAt
import Derived.KernelRfl
namespace Go.Proofs.YtpficieiefgbfaaGreatDoor.top
set_option linter.unusedVariables false
set_option maxRecDepth 100000 in
theorem cMain : Tryz.prog.mainIs = some (true, "6cf8229b689b0448856056dd4b339509460a15b5fedd38ccc96de598f7b58c1a".toList) := by kernel_rfl
end Go.Proofs.YtpficieiefgbfaaGreatDoor.top
