/- Closed facts of the program: its main package. -/
import Derived.Test.YtendipoeeoieiaaGreatDoorRows
import Derived.Test.YtendipoeeoieiaaGreatDoorProg
import Derived.ProofKit
import Derived.JoinedOf
import Derived.SevenTiedAt
import Derived.KernelRfl
namespace Go.Proofs.YtendipoeeoieiaaGreatDoor.top
set_option linter.unusedVariables false
set_option maxRecDepth 100000 in
theorem cMain : Tryz.prog.mainIs = some (true, "471b05ce7ec0fa74945d7a431ccf951354dfa106854c3448556dbfcac6035de4".toList) := by kernel_rfl
end Go.Proofs.YtendipoeeoieiaaGreatDoor.top
