/- The law TopPanic: closed facts of its row. -/
import Derived.Test.YtendipoeeoieiaaGreatDoorRows
import Derived.Test.YtendipoeeoieiaaGreatDoorProg
import Derived.ProofKit
import Derived.JoinedOf
import Derived.SevenTiedAt
import Derived.KernelRfl
namespace Go.Proofs.YtendipoeeoieiaaGreatDoor.toppanic
set_option linter.unusedVariables false
set_option maxRecDepth 100000 in
theorem cRoad : (((Rows.topPanicRow.inPlace == Tryz.prog.inPlace 4) && (Rows.topPanicRow.unfollowed == Tryz.prog.unfollowed 4)) && ((Rows.topPanicRow.recurses == Tryz.prog.recurses 4) && (Rows.topPanicRow.named == Tryz.prog.varsNamed 4))) = true := by kernel_rfl
end Go.Proofs.YtendipoeeoieiaaGreatDoor.toppanic
