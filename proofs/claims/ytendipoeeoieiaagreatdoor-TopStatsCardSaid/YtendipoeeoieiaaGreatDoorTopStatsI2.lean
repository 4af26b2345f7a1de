/- The law TopStats: what the evaluator says at some of its values. -/
import Derived.Test.YtendipoeeoieiaaGreatDoorTopStatsB
import Derived.KernelRfl
namespace Go.Proofs.YtendipoeeoieiaaGreatDoor.topstats
set_option maxRecDepth 100000 in
theorem said_8 : Vai.saidOf (lawCall 8 5 #[.chan (some 4096)] Vai.mem0) = some true := by kernel_rfl
set_option maxRecDepth 100000 in
theorem said_9 : Vai.saidOf (lawCall 9 5 #[.chan (some 4096)] Vai.mem0) = some true := by kernel_rfl
set_option maxRecDepth 100000 in
theorem said_10 : Vai.saidOf (lawCall 10 5 #[.chan (some 4096)] Vai.mem0) = some true := by kernel_rfl
set_option maxRecDepth 100000 in
theorem said_11 : Vai.saidOf (lawCall 11 5 #[.chan (some 4096)] Vai.mem0) = some true := by kernel_rfl
end Go.Proofs.YtendipoeeoieiaaGreatDoor.topstats
