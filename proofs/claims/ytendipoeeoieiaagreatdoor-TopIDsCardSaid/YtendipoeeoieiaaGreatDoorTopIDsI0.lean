/- The law TopIDs: what the evaluator says at some of its values. -/
import Derived.Test.YtendipoeeoieiaaGreatDoorTopIDsB
import Derived.KernelRfl
namespace Go.Proofs.YtendipoeeoieiaaGreatDoor.topids
set_option maxRecDepth 100000 in
theorem said_0 : Vai.saidOf (lawCall 0 7 #[.chan (some 4096)] Vai.mem0) = some true := by kernel_rfl
set_option maxRecDepth 100000 in
theorem said_1 : Vai.saidOf (lawCall 1 7 #[.chan (some 4096)] Vai.mem0) = some true := by kernel_rfl
end Go.Proofs.YtendipoeeoieiaaGreatDoor.topids
