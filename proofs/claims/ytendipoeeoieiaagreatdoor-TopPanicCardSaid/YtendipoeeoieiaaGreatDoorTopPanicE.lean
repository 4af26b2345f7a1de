/- The law TopPanic: closed facts of its row. -/
import Derived.Test.YtendipoeeoieiaaGreatDoorRows
import Derived.Test.YtendipoeeoieiaaGreatDoorProg
import Derived.ProofKit
import Derived.JoinedOf
import Derived.SevenTiedAt
import Derived.KernelRfl
namespace Go.Proofs.YtendipoeeoieiaaGreatDoor.toppanic
set_option linter.unusedVariables false
set_option maxRecDepth 100000 in
theorem cName : Tryz.prog.funcNamed Rows.topPanicRow.func = some 4 := by kernel_rfl
end Go.Proofs.YtendipoeeoieiaaGreatDoor.toppanic
