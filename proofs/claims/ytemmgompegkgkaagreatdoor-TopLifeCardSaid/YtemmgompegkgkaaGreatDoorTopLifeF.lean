/- The law TopLife: closed facts of its row. -/
import Derived.Test.YtemmgompegkgkaaGreatDoorRows
import Derived.Test.YtemmgompegkgkaaGreatDoorProg
import Derived.ProofKit
import Derived.JoinedOf
import Derived.SevenTiedAt
import Derived.KernelRfl
namespace Go.Proofs.YtemmgompegkgkaaGreatDoor.toplife
set_option linter.unusedVariables false
set_option maxRecDepth 100000 in
theorem cRoad : (((Rows.topLifeRow.inPlace == Tryz.prog.inPlace 5) && (Rows.topLifeRow.unfollowed == Tryz.prog.unfollowed 5)) && ((Rows.topLifeRow.recurses == Tryz.prog.recurses 5) && (Rows.topLifeRow.named == Tryz.prog.varsNamed 5))) = true := by kernel_rfl
end Go.Proofs.YtemmgompegkgkaaGreatDoor.toplife
