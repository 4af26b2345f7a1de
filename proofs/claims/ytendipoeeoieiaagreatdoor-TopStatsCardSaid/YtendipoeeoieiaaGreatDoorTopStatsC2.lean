/- The law TopStats: what the evaluator says of a call from a memory that is written down. -/
import Derived.Test.YtendipoeeoieiaaGreatDoorTopStatsK
import Derived.KernelRfl
namespace Go.Proofs.YtendipoeeoieiaaGreatDoor.topstats
set_option maxRecDepth 100000 in
theorem ck2 : Vai.ckOk top.plainCall 13 args2 keep2 res2 out2 = true := by kernel_rfl
end Go.Proofs.YtendipoeeoieiaaGreatDoor.topstats
