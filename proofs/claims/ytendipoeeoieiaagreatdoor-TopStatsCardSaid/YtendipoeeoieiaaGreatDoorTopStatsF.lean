/- The law TopStats: closed facts of its row. -/
import Derived.Test.YtendipoeeoieiaaGreatDoorRows
import Derived.Test.YtendipoeeoieiaaGreatDoorProg
import Derived.ProofKit
import Derived.JoinedOf
import Derived.SevenTiedAt
import Derived.KernelRfl
namespace Go.Proofs.YtendipoeeoieiaaGreatDoor.topstats
set_option linter.unusedVariables false
set_option maxRecDepth 100000 in
theorem cRoad : (((Rows.topStatsRow.inPlace == Tryz.prog.inPlace 5) && (Rows.topStatsRow.unfollowed == Tryz.prog.unfollowed 5)) && ((Rows.topStatsRow.recurses == Tryz.prog.recurses 5) && (Rows.topStatsRow.named == Tryz.prog.varsNamed 5))) = true := by kernel_rfl
end Go.Proofs.YtendipoeeoieiaaGreatDoor.topstats
