/- The law TopSpoof: what the evaluator says of calls from a memory that is written down. -/
import Derived.Test.YtemmgompegkgkaaGreatDoorTopSpoofR0
import Derived.KernelRfl
namespace Go.Proofs.YtemmgompegkgkaaGreatDoor.topspoof.k2
open Go Vai
set_option linter.unusedVariables false
set_option linter.unusedSimpArgs false
set_option maxRecDepth 100000 in
theorem ck3 : ckOk call0 14 args3 keep3 res3 out3 = true := by kernel_rfl
set_option maxRecDepth 100000 in
theorem ckx3 : ckEOk keep3 ex3 out3 = true := by kernel_rfl
end Go.Proofs.YtemmgompegkgkaaGreatDoor.topspoof.k2
