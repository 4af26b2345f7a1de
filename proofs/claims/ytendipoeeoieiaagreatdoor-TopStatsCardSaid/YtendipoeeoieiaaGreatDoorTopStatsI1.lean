/- The law TopStats: what the evaluator says at some of its values. -/
import Derived.Test.YtendipoeeoieiaaGreatDoorTopStatsB
import Derived.KernelRfl
namespace Go.Proofs.YtendipoeeoieiaaGreatDoor.topstats
set_option maxRecDepth 100000 in
theorem said_4 : Vai.saidOf (lawCall 4 5 #[.chan (some 4096)] Vai.mem0) = some true := by kernel_rfl
set_option maxRecDepth 100000 in
theorem said_5 : Vai.saidOf (lawCall 5 5 #[.chan (some 4096)] Vai.mem0) = some true := by kernel_rfl
set_option maxRecDepth 100000 in
theorem said_6 : Vai.saidOf (lawCall 6 5 #[.chan (some 4096)] Vai.mem0) = some true := by kernel_rfl
set_option maxRecDepth 100000 in
theorem said_7 : Vai.saidOf (lawCall 7 5 #[.chan (some 4096)] Vai.mem0) = some true := by kernel_rfl
end Go.Proofs.YtendipoeeoieiaaGreatDoor.topstats
