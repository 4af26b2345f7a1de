/- The law TopStats: what the evaluator says of a call from a memory that is written down. -/
import Derived.Test.YtendipoeeoieiaaGreatDoorTopStatsK
import Derived.KernelRfl
namespace Go.Proofs.YtendipoeeoieiaaGreatDoor.topstats
set_option maxRecDepth 100000 in
theorem ck10 : Vai.ckOk top.plainCall 13 args10 keep10 res10 out10 = true := by kernel_rfl
end Go.Proofs.YtendipoeeoieiaaGreatDoor.topstats
