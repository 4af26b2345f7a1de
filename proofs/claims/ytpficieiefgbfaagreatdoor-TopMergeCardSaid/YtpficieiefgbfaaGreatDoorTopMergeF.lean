/- The law TopMerge: closed facts of its row. -/
import Derived.Test.YtpficieiefgbfaaGreatDoorRows
import Derived.Test.YtpficieiefgbfaaGreatDoorProg
import Derived.ProofKit
import Derived.JoinedOf
import Derived.SevenTiedAt
import Derived.KernelRfl
namespace Go.Proofs.YtpficieiefgbfaaGreatDoor.topmerge
set_option linter.unusedVariables false
set_option maxRecDepth 100000 in
theorem cRoad : (((Rows.topMergeRow.inPlace == Tryz.prog.inPlace 6) && (Rows.topMergeRow.unfollowed == Tryz.prog.unfollowed 6)) && ((Rows.topMergeRow.recurses == Tryz.prog.recurses 6) && (Rows.topMergeRow.named == Tryz.prog.varsNamed 6))) = true := by kernel_rfl
end Go.Proofs.YtpficieiefgbfaaGreatDoor.topmerge
