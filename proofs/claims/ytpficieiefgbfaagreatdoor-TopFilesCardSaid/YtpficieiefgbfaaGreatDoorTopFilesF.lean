/- The law TopFiles: closed facts of its row. -/
import Derived.Test.YtpficieiefgbfaaGreatDoorRows
import Derived.Test.YtpficieiefgbfaaGreatDoorProg
import Derived.ProofKit
import Derived.JoinedOf
import Derived.SevenTiedAt
import Derived.KernelRfl
namespace Go.Proofs.YtpficieiefgbfaaGreatDoor.topfiles
set_option linter.unusedVariables false
set_option maxRecDepth 100000 in
theorem cRoad : (((Rows.topFilesRow.inPlace == Tryz.prog.inPlace 5) && (Rows.topFilesRow.unfollowed == Tryz.prog.unfollowed 5)) && ((Rows.topFilesRow.recurses == Tryz.prog.recurses 5) && (Rows.topFilesRow.named == Tryz.prog.varsNamed 5))) = true := by kernel_rfl
end Go.Proofs.YtpficieiefgbfaaGreatDoor.topfiles
