/- The law TopSpoof: what the evaluator says of calls from a memory that is written down. -/
import Derived.Test.YtemmgompegkgkaaGreatDoorTopSpoofR0
import Derived.KernelRfl
namespace Go.Proofs.YtemmgompegkgkaaGreatDoor.topspoof.k0
open Go Vai
set_option linter.unusedVariables false
set_option linter.unusedSimpArgs false
set_option maxRecDepth 100000 in
theorem ck4 : ckOk call0 22 args4 keep4 res4 out4 = true := by kernel_rfl
set_option maxRecDepth 100000 in
theorem ckx4 : ckEOk keep4 ex4 out4 = true := by kernel_rfl
end Go.Proofs.YtemmgompegkgkaaGreatDoor.topspoof.k0
