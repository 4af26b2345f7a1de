/- The law TopTimeout: closed facts of its row. -/
import Derived.Test.YtendipoeeoieiaaGreatDoorRows
import Derived.Test.YtendipoeeoieiaaGreatDoorProg
import Derived.ProofKit
import Derived.JoinedOf
import Derived.SevenTiedAt
import Derived.KernelRfl
namespace Go.Proofs.YtendipoeeoieiaaGreatDoor.toptimeout
set_option linter.unusedVariables false
set_option maxRecDepth 100000 in
theorem cRoad : (((Rows.topTimeoutRow.inPlace == Tryz.prog.inPlace 6) && (Rows.topTimeoutRow.unfollowed == Tryz.prog.unfollowed 6)) && ((Rows.topTimeoutRow.recurses == Tryz.prog.recurses 6) && (Rows.topTimeoutRow.named == Tryz.prog.varsNamed 6))) = true := by kernel_rfl
end Go.Proofs.YtendipoeeoieiaaGreatDoor.toptimeout
