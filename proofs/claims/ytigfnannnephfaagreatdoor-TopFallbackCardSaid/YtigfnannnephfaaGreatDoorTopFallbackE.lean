/- The law TopFallback: closed facts of its row. -/
import Derived.Test.YtigfnannnephfaaGreatDoorRows
import Derived.Test.YtigfnannnephfaaGreatDoorProg
import Derived.ProofKit
import Derived.JoinedOf
import Derived.SevenTiedAt
import Derived.KernelRfl
namespace Go.Proofs.YtigfnannnephfaaGreatDoor.topfallback
set_option linter.unusedVariables false
set_option maxRecDepth 100000 in
theorem cName : Tryz.prog.funcNamed Rows.topFallbackRow.func = some 3 := by kernel_rfl
end Go.Proofs.YtigfnannnephfaaGreatDoor.topfallback
