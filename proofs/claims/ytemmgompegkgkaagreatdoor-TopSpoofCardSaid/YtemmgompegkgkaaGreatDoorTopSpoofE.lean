/- The law TopSpoof: closed facts of its row. -/
import Derived.Test.YtemmgompegkgkaaGreatDoorRows
import Derived.Test.YtemmgompegkgkaaGreatDoorProg
import Derived.ProofKit
import Derived.JoinedOf
import Derived.SevenTiedAt
import Derived.KernelRfl
namespace Go.Proofs.YtemmgompegkgkaaGreatDoor.topspoof
set_option linter.unusedVariables false
set_option maxRecDepth 100000 in
theorem cName : Tryz.prog.funcNamed Rows.topSpoofRow.func = some 4 := by kernel_rfl
end Go.Proofs.YtemmgompegkgkaaGreatDoor.topspoof
