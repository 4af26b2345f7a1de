/- Closed facts of the program: its main package. -/
import Derived.Test.YtigfnannnephfaaGreatDoorRows
import Derived.Test.YtigfnannnephfaaGreatDoorProg
import Derived.ProofKit
import Derived.JoinedOf
import Derived.SevenTiedAt
import Derived.KernelRfl
namespace Go.Proofs.YtigfnannnephfaaGreatDoor.top
set_option linter.unusedVariables false
set_option maxRecDepth 100000 in
theorem cMain : Tryz.prog.mainIs = some (true, "b602d2ee67ad10cc7ac5fb27aa4b14284b037aa0124fb3a06f9414aa23181c2a".toList) := by kernel_rfl
end Go.Proofs.YtigfnannnephfaaGreatDoor.top
