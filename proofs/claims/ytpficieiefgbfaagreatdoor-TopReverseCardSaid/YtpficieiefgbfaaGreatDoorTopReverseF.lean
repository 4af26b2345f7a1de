/- The law TopReverse: closed facts of its row. -/
import Derived.Test.YtpficieiefgbfaaGreatDoorRows
import Derived.Test.YtpficieiefgbfaaGreatDoorProg
import Derived.ProofKit
import Derived.JoinedOf
import Derived.SevenTiedAt
import Derived.KernelRfl
namespace Go.Proofs.YtpficieiefgbfaaGreatDoor.topreverse
set_option linter.unusedVariables false
set_option maxRecDepth 100000 in
theorem cRoad : (((Rows.topReverseRow.inPlace == Tryz.prog.inPlace 3) && (Rows.topReverseRow.unfollowed == Tryz.prog.unfollowed 3)) && ((Rows.topReverseRow.recurses == Tryz.prog.recurses 3) && (Rows.topReverseRow.named == Tryz.prog.varsNamed 3))) = true := by kernel_rfl
end Go.Proofs.YtpficieiefgbfaaGreatDoor.topreverse
