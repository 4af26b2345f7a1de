/- Closed facts of the program: its maps. -/
import Derived.Test.YtemmgompegkgkaaGreatDoorRows
import Derived.Test.YtemmgompegkgkaaGreatDoorProg
import Derived.ProofKit
import Derived.JoinedOf
import Derived.SevenTiedAt
import Derived.KernelRfl
namespace Go.Proofs.YtemmgompegkgkaaGreatDoor.top
set_option linter.unusedVariables false
set_option maxRecDepth 100000 in
theorem cMaps : mapsRowed Tryz.prog = true := by kernel_rfl
set_option maxRecDepth 100000 in
theorem cKeys : Tryz.prog.plainKeys = true := by kernel_rfl
end Go.Proofs.YtemmgompegkgkaaGreatDoor.top
