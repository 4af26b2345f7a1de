/- The law TopSpoof: what the evaluator says of calls from a memory that is written down. -/
import Derived.Test.YtemmgompegkgkaaGreatDoorTopSpoofR0
import Derived.KernelRfl
namespace Go.Proofs.YtemmgompegkgkaaGreatDoor.topspoof.k0
open Go Vai
set_option linter.unusedVariables false
set_option linter.unusedSimpArgs false
set_option maxRecDepth 100000 in
theorem ck0 : ckOk call0 10 args0 keep0 res0 out0 = true := by kernel_rfl
set_option maxRecDepth 100000 in
theorem ckx0 : ckEOk keep0 ex0 out0 = true := by kernel_rfl
end Go.Proofs.YtemmgompegkgkaaGreatDoor.topspoof.k0
