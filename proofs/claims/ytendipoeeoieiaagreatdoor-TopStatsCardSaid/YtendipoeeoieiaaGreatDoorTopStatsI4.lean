/- The law TopStats: what the evaluator says at some of its values. -/
import Derived.Test.YtendipoeeoieiaaGreatDoorTopStatsB
import Derived.KernelRfl
namespace Go.Proofs.YtendipoeeoieiaaGreatDoor.topstats
set_option maxRecDepth 100000 in
theorem said_16 : Vai.saidOf (lawCall 16 5 #[.chan (some 4096)] Vai.mem0) = some true := by kernel_rfl
set_option maxRecDepth 100000 in
theorem said_17 : Vai.saidOf (lawCall 17 5 #[.chan (some 4096)] Vai.mem0) = some true := by kernel_rfl
set_option maxRecDepth 100000 in
theorem said_18 : Vai.saidOf (lawCall 18 5 #[.chan (some 4096)] Vai.mem0) = some true := by kernel_rfl
set_option maxRecDepth 100000 in
theorem said_19 : Vai.saidOf (lawCall 19 5 #[.chan (some 4096)] Vai.mem0) = some true := by kernel_rfl
end Go.Proofs.YtendipoeeoieiaaGreatDoor.topstats
