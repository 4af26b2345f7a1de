/- The law TopSpoof: what the evaluator says of calls from a memory that is written down. -/
import Derived.Test.YtemmgompegkgkaaGreatDoorTopSpoofR0
import Derived.KernelRfl
namespace Go.Proofs.YtemmgompegkgkaaGreatDoor.topspoof.k0
open Go Vai
set_option linter.unusedVariables false
set_option linter.unusedSimpArgs false
set_option maxRecDepth 100000 in
theorem ck2 : ckOk call0 22 args2 keep2 res2 out2 = true := by kernel_rfl
set_option maxRecDepth 100000 in
theorem ckx2 : ckEOk keep2 ex2 out2 = true := by kernel_rfl
end Go.Proofs.YtemmgompegkgkaaGreatDoor.topspoof.k0
