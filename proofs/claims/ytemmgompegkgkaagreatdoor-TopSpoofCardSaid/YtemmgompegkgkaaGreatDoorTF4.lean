/- Closed facts of the program: its main package. -/
import Derived.Test.YtemmgompegkgkaaGreatDoorRows
import Derived.Test.YtemmgompegkgkaaGreatDoorProg
import Derived.ProofKit
import Derived.JoinedOf
import Derived.SevenTiedAt
import Derived.KernelRfl
namespace Go.Proofs.YtemmgompegkgkaaGreatDoor.top
set_option linter.unusedVariables false
set_option maxRecDepth 100000 in
theorem cMain : Tryz.prog.mainIs = some (true, "6e945fde472b169eae9fd522baa2eada81a12cc5a62fde05d3471a05be40f119".toList) := by kernel_rfl
end Go.Proofs.YtemmgompegkgkaaGreatDoor.top
