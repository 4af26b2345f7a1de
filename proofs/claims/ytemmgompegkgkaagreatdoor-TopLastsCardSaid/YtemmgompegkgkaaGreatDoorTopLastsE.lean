/- The law TopLasts: closed facts of its row. -/
import Derived.Test.YtemmgompegkgkaaGreatDoorRows
import Derived.Test.YtemmgompegkgkaaGreatDoorProg
import Derived.ProofKit
import Derived.JoinedOf
import Derived.SevenTiedAt
import Derived.KernelRfl
namespace Go.Proofs.YtemmgompegkgkaaGreatDoor.toplasts
set_option linter.unusedVariables false
set_option maxRecDepth 100000 in
theorem cName : Tryz.prog.funcNamed Rows.topLastsRow.func = some 3 := by kernel_rfl
end Go.Proofs.YtemmgompegkgkaaGreatDoor.toplasts
