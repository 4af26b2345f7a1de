/- The law TopNoChain: closed facts of its row. -/
import Derived.Test.YtigfnannnephfaaGreatDoorRows
import Derived.Test.YtigfnannnephfaaGreatDoorProg
import Derived.ProofKit
import Derived.JoinedOf
import Derived.SevenTiedAt
import Derived.KernelRfl
namespace Go.Proofs.YtigfnannnephfaaGreatDoor.topnochain
set_option linter.unusedVariables false
set_option maxRecDepth 100000 in
theorem cRoad : (((Rows.topNoChainRow.inPlace == Tryz.prog.inPlace 4) && (Rows.topNoChainRow.unfollowed == Tryz.prog.unfollowed 4)) && ((Rows.topNoChainRow.recurses == Tryz.prog.recurses 4) && (Rows.topNoChainRow.named == Tryz.prog.varsNamed 4))) = true := by kernel_rfl
end Go.Proofs.YtigfnannnephfaaGreatDoor.topnochain
