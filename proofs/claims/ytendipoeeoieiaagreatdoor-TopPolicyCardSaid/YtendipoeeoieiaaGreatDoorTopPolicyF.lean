/- The law TopPolicy: closed facts of its row. -/
import Derived.Test.YtendipoeeoieiaaGreatDoorRows
import Derived.Test.YtendipoeeoieiaaGreatDoorProg
import Derived.ProofKit
import Derived.JoinedOf
import Derived.SevenTiedAt
import Derived.KernelRfl
namespace Go.Proofs.YtendipoeeoieiaaGreatDoor.toppolicy
set_option linter.unusedVariables false
set_option maxRecDepth 100000 in
theorem cRoad : (((Rows.topPolicyRow.inPlace == Tryz.prog.inPlace 3) && (Rows.topPolicyRow.unfollowed == Tryz.prog.unfollowed 3)) && ((Rows.topPolicyRow.recurses == Tryz.prog.recurses 3) && (Rows.topPolicyRow.named == Tryz.prog.varsNamed 3))) = true := by kernel_rfl
end Go.Proofs.YtendipoeeoieiaaGreatDoor.toppolicy
