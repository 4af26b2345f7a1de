/- A closed fact of the program: the places in its memory. -/
import Derived.Test.YtemmgompegkgkaaGreatDoorRows
import Derived.Test.YtemmgompegkgkaaGreatDoorProg
import Derived.ProofKit
import Derived.JoinedOf
import Derived.SevenTiedAt
import Derived.KernelRfl
namespace Go.Proofs.YtemmgompegkgkaaGreatDoor.top
set_option linter.unusedVariables false
set_option maxRecDepth 100000 in
theorem cLaid : laidOutB Tryz.prog = true := by kernel_rfl
end Go.Proofs.YtemmgompegkgkaaGreatDoor.top
