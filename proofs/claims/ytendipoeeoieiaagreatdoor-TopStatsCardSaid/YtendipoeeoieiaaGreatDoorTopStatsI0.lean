/- The law TopStats: what the evaluator says at some of its values. -/
import Derived.Test.YtendipoeeoieiaaGreatDoorTopStatsB
import Derived.KernelRfl
namespace Go.Proofs.YtendipoeeoieiaaGreatDoor.topstats
set_option maxRecDepth 100000 in
theorem said_0 : Vai.saidOf (lawCall 0 5 #[.chan (some 4096)] Vai.mem0) = some true := by kernel_rfl
set_option maxRecDepth 100000 in
theorem said_1 : Vai.saidOf (lawCall 1 5 #[.chan (some 4096)] Vai.mem0) = some true := by kernel_rfl
set_option maxRecDepth 100000 in
theorem said_2 : Vai.saidOf (lawCall 2 5 #[.chan (some 4096)] Vai.mem0) = some true := by kernel_rfl
set_option maxRecDepth 100000 in
theorem said_3 : Vai.saidOf (lawCall 3 5 #[.chan (some 4096)] Vai.mem0) = some true := by kernel_rfl
end Go.Proofs.YtendipoeeoieiaaGreatDoor.topstats
