/- The law TopPolicy: what the evaluator says at some of its values. -/
import Derived.Test.YtendipoeeoieiaaGreatDoorTopPolicyB
import Derived.KernelRfl
namespace Go.Proofs.YtendipoeeoieiaaGreatDoor.toppolicy
set_option maxRecDepth 100000 in
theorem saidt_1 : Vai.saidOf (lawCall 1 3 #[.chan (some 4096), .bool true] Vai.mem0) = some true := by kernel_rfl
end Go.Proofs.YtendipoeeoieiaaGreatDoor.toppolicy
