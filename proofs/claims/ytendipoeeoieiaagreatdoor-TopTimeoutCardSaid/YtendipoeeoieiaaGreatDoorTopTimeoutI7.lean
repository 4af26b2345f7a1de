/- The law TopTimeout: what the evaluator says at some of its values. -/
import Derived.Test.YtendipoeeoieiaaGreatDoorTopTimeoutB
import Derived.KernelRfl
namespace Go.Proofs.YtendipoeeoieiaaGreatDoor.toptimeout
set_option maxRecDepth 100000 in
theorem said_7 : Vai.saidOf (lawCall 7 6 #[.chan (some 4096)] Vai.mem0) = some true := by kernel_rfl
end Go.Proofs.YtendipoeeoieiaaGreatDoor.toptimeout
