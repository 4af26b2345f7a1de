/- The law TopLasts: closed facts of its row. -/
import Derived.Test.YtemmgompegkgkaaGreatDoorRows
import Derived.Test.YtemmgompegkgkaaGreatDoorProg
import Derived.ProofKit
import Derived.JoinedOf
import Derived.SevenTiedAt
import Derived.KernelRfl
namespace Go.Proofs.YtemmgompegkgkaaGreatDoor.toplasts
set_option linter.unusedVariables false
set_option maxRecDepth 100000 in
theorem cRoad : (((Rows.topLastsRow.inPlace == Tryz.prog.inPlace 3) && (Rows.topLastsRow.unfollowed == Tryz.prog.unfollowed 3)) && ((Rows.topLastsRow.recurses == Tryz.prog.recurses 3) && (Rows.topLastsRow.named == Tryz.prog.varsNamed 3))) = true := by kernel_rfl
end Go.Proofs.YtemmgompegkgkaaGreatDoor.toplasts
