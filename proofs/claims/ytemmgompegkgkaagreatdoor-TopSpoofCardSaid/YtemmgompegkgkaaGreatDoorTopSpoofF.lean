/- The law TopSpoof: closed facts of its row. -/
import Derived.Test.YtemmgompegkgkaaGreatDoorRows
import Derived.Test.YtemmgompegkgkaaGreatDoorProg
import Derived.ProofKit
import Derived.JoinedOf
import Derived.SevenTiedAt
import Derived.KernelRfl
namespace Go.Proofs.YtemmgompegkgkaaGreatDoor.topspoof
set_option linter.unusedVariables false
set_option maxRecDepth 100000 in
theorem cRoad : (((Rows.topSpoofRow.inPlace == Tryz.prog.inPlace 4) && (Rows.topSpoofRow.unfollowed == Tryz.prog.unfollowed 4)) && ((Rows.topSpoofRow.recurses == Tryz.prog.recurses 4) && (Rows.topSpoofRow.named == Tryz.prog.varsNamed 4))) = true := by kernel_rfl
end Go.Proofs.YtemmgompegkgkaaGreatDoor.topspoof
