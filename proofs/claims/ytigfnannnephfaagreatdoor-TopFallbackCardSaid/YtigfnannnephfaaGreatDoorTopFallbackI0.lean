/- The law TopFallback: what the evaluator says at some of its values. -/
import Derived.Test.YtigfnannnephfaaGreatDoorTopFallbackB
import Derived.KernelRfl
namespace Go.Proofs.YtigfnannnephfaaGreatDoor.topfallback
set_option maxRecDepth 100000 in
theorem saidf_0 : Vai.saidOf (lawCall 0 3 #[.bool false] Vai.mem0) = some true := by kernel_rfl
end Go.Proofs.YtigfnannnephfaaGreatDoor.topfallback
