/- The law TopSpoof: what the evaluator says of calls from a memory that is written down. -/
import Derived.Test.YtemmgompegkgkaaGreatDoorTopSpoofR0
import Derived.KernelRfl
namespace Go.Proofs.YtemmgompegkgkaaGreatDoor.topspoof.k2
open Go Vai
set_option linter.unusedVariables false
set_option linter.unusedSimpArgs false
set_option maxRecDepth 100000 in
theorem ck1 : ckOk call0 12 args1 keep1 res1 out1 = true := by kernel_rfl
set_option maxRecDepth 100000 in
theorem ckx1 : ckEOk keep1 ex1 out1 = true := by kernel_rfl
end Go.Proofs.YtemmgompegkgkaaGreatDoor.topspoof.k2
