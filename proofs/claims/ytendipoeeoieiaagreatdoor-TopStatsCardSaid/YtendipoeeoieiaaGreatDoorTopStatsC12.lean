/- The law TopStats: what the evaluator says of a call from a memory that is written down. -/
import Derived.Test.YtendipoeeoieiaaGreatDoorTopStatsK
import Derived.KernelRfl
namespace Go.Proofs.YtendipoeeoieiaaGreatDoor.topstats
set_option maxRecDepth 100000 in
theorem ck12 : Vai.ckOk top.plainCall 13 args12 keep12 res12 out12 = true := by kernel_rfl
end Go.Proofs.YtendipoeeoieiaaGreatDoor.topstats
