/- The law TopStats: what the evaluator says of a call from a memory that is written down. -/
import Derived.Test.YtendipoeeoieiaaGreatDoorTopStatsK
import Derived.KernelRfl
namespace Go.Proofs.YtendipoeeoieiaaGreatDoor.topstats
set_option maxRecDepth 100000 in
theorem ck0 : Vai.ckOk top.plainCall 10 args0 keep0 res0 out0 = true := by kernel_rfl
end Go.Proofs.YtendipoeeoieiaaGreatDoor.topstats
