/- The law TopNoChain: closed facts of its row. -/
import Derived.Test.YtigfnannnephfaaGreatDoorRows
import Derived.Test.YtigfnannnephfaaGreatDoorProg
import Derived.ProofKit
import Derived.JoinedOf
import Derived.SevenTiedAt
import Derived.KernelRfl
namespace Go.Proofs.YtigfnannnephfaaGreatDoor.topnochain
set_option linter.unusedVariables false
set_option maxRecDepth 100000 in
theorem cName : Tryz.prog.funcNamed Rows.topNoChainRow.func = some 4 := by kernel_rfl
end Go.Proofs.YtigfnannnephfaaGreatDoor.topnochain
