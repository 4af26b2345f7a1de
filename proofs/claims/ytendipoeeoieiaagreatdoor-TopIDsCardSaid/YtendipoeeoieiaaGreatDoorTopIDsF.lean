/- The law TopIDs: closed facts of its row. -/
import Derived.Test.YtendipoeeoieiaaGreatDoorRows
import Derived.Test.YtendipoeeoieiaaGreatDoorProg
import Derived.ProofKit
import Derived.JoinedOf
import Derived.SevenTiedAt
import Derived.KernelRfl
namespace Go.Proofs.YtendipoeeoieiaaGreatDoor.topids
set_option linter.unusedVariables false
set_option maxRecDepth 100000 in
theorem cRoad : (((Rows.topIDsRow.inPlace == Tryz.prog.inPlace 7) && (Rows.topIDsRow.unfollowed == Tryz.prog.unfollowed 7)) && ((Rows.topIDsRow.recurses == Tryz.prog.recurses 7) && (Rows.topIDsRow.named == Tryz.prog.varsNamed 7))) = true := by kernel_rfl
end Go.Proofs.YtendipoeeoieiaaGreatDoor.topids
