/- The law TopDepends: closed facts of its row. -/
import Derived.Test.YtpficieiefgbfaaGreatDoorRows
import Derived.Test.YtpficieiefgbfaaGreatDoorProg
import Derived.ProofKit
import Derived.JoinedOf
import Derived.SevenTiedAt
import Derived.KernelRfl
namespace Go.Proofs.YtpficieiefgbfaaGreatDoor.topdepends
set_option linter.unusedVariables false
set_option maxRecDepth 100000 in
theorem cRoad : (((Rows.topDependsRow.inPlace == Tryz.prog.inPlace 7) && (Rows.topDependsRow.unfollowed == Tryz.prog.unfollowed 7)) && ((Rows.topDependsRow.recurses == Tryz.prog.recurses 7) && (Rows.topDependsRow.named == Tryz.prog.varsNamed 7))) = true := by kernel_rfl
end Go.Proofs.YtpficieiefgbfaaGreatDoor.topdepends
