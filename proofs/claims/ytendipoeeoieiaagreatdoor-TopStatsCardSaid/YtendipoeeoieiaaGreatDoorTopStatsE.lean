/- The law TopStats: closed facts of its row. -/
import Derived.Test.YtendipoeeoieiaaGreatDoorRows
import Derived.Test.YtendipoeeoieiaaGreatDoorProg
import Derived.ProofKit
import Derived.JoinedOf
import Derived.SevenTiedAt
import Derived.KernelRfl
namespace Go.Proofs.YtendipoeeoieiaaGreatDoor.topstats
set_option linter.unusedVariables false
set_option maxRecDepth 100000 in
theorem cName : Tryz.prog.funcNamed Rows.topStatsRow.func = some 5 := by kernel_rfl
end Go.Proofs.YtendipoeeoieiaaGreatDoor.topstats
