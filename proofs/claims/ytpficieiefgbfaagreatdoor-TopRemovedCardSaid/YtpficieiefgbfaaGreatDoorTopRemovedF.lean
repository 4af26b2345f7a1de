/- The law TopRemoved: closed facts of its row. -/
import Derived.Test.YtpficieiefgbfaaGreatDoorRows
import Derived.Test.YtpficieiefgbfaaGreatDoorProg
import Derived.ProofKit
import Derived.JoinedOf
import Derived.SevenTiedAt
import Derived.KernelRfl
namespace Go.Proofs.YtpficieiefgbfaaGreatDoor.topremoved
set_option linter.unusedVariables false
set_option maxRecDepth 100000 in
theorem cRoad : (((Rows.topRemovedRow.inPlace == Tryz.prog.inPlace 4) && (Rows.topRemovedRow.unfollowed == Tryz.prog.unfollowed 4)) && ((Rows.topRemovedRow.recurses == Tryz.prog.recurses 4) && (Rows.topRemovedRow.named == Tryz.prog.varsNamed 4))) = true := by kernel_rfl
end Go.Proofs.YtpficieiefgbfaaGreatDoor.topremoved
