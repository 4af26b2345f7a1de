/- The law TopNoChain: closed facts of its row. -/
import Derived.Test.YtigfnannnephfaaGreatDoorRows
import Derived.Test.YtigfnannnephfaaGreatDoorProg
import Derived.ProofKit
import Derived.JoinedOf
import Derived.SevenTiedAt
import Derived.KernelRfl
namespace Go.Proofs.YtigfnannnephfaaGreatDoor.topnochain
set_option linter.unusedVariables false
set_option maxRecDepth 100000 in
theorem cGoes : false = Rows.topNoChainRow.goesBy Tryz.prog := by kernel_rfl
set_option maxRecDepth 100000 in
theorem cText : Rows.topNoChainRow.wfByText (OpenSpec.ofChange Rows.topNoChainSpec) = true := by kernel_rfl
end Go.Proofs.YtigfnannnephfaaGreatDoor.topnochain
