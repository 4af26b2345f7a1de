/- Closed facts of the program: what it looks at. -/
import Derived.Test.YtemmgompegkgkaaGreatDoorRows
import Derived.Test.YtemmgompegkgkaaGreatDoorProg
import Derived.ProofKit
import Derived.JoinedOf
import Derived.SevenTiedAt
import Derived.KernelRfl
namespace Go.Proofs.YtemmgompegkgkaaGreatDoor.top
set_option linter.unusedVariables false
set_option maxRecDepth 100000 in
theorem cLooks : true = Tryz.prog.looks [] := by kernel_rfl
end Go.Proofs.YtemmgompegkgkaaGreatDoor.top
