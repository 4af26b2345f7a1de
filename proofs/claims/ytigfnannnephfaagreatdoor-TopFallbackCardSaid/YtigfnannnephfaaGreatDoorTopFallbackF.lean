/- The law TopFallback: closed facts of its row. -/
import Derived.Test.YtigfnannnephfaaGreatDoorRows
import Derived.Test.YtigfnannnephfaaGreatDoorProg
import Derived.ProofKit
import Derived.JoinedOf
import Derived.SevenTiedAt
import Derived.KernelRfl
namespace Go.Proofs.YtigfnannnephfaaGreatDoor.topfallback
set_option linter.unusedVariables false
set_option maxRecDepth 100000 in
theorem cRoad : (((Rows.topFallbackRow.inPlace == Tryz.prog.inPlace 3) && (Rows.topFallbackRow.unfollowed == Tryz.prog.unfollowed 3)) && ((Rows.topFallbackRow.recurses == Tryz.prog.recurses 3) && (Rows.topFallbackRow.named == Tryz.prog.varsNamed 3))) = true := by kernel_rfl
end Go.Proofs.YtigfnannnephfaaGreatDoor.topfallback
