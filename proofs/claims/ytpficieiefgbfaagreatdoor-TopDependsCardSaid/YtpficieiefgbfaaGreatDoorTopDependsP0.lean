/- The law TopDepends: calls of plain functions over the classes. -/
import Derived.Test.YtpficieiefgbfaaGreatDoorTB
import Derived.Test.YtpficieiefgbfaaGreatDoorTopDependsT0
import Derived.KernelRfl
namespace Go.Proofs.YtpficieiefgbfaaGreatDoor.topdepends.d1
open Go Vai
set_option linter.unusedVariables false
set_option linter.unusedSimpArgs false
set_option maxRecDepth 100000 in
theorem pure0_0 (a0 : Int) : allB 8 (fun i => pureOk top.plainCall 253 (G a0 (0 + i)) pargs0 pres0) = true := by kernel_rfl
theorem pure0 (a0 : Int) (x0 : Nat) (h0 : 0 ≤ x0 ∧ x0 < 8) : ToldOk Tryz.prog (G a0 x0) 253 pargs0 pres0 := by
  refine pureOk_ok (named_ok a0 x0) (top.plain_ok _) (by kernel_rfl) (by kernel_rfl) ?_
  by_cases hc : x0 < 8
  · have h := allB_spec (pure0_0 a0 ) (x0 - 0) (by omega)
    rw [show 0 + (x0 - 0) = x0 by omega] at h
    exact h
  · omega
end Go.Proofs.YtpficieiefgbfaaGreatDoor.topdepends.d1
namespace Go.Proofs.YtpficieiefgbfaaGreatDoor.topdepends.d2
open Go Vai
set_option linter.unusedVariables false
set_option linter.unusedSimpArgs false
set_option maxRecDepth 100000 in
theorem pure0_8 (a0 : Int) : allB 50 (fun i => pureOk top.plainCall 253 (G a0 (8 + i)) pargs0 pres0) = true := by kernel_rfl
set_option maxRecDepth 100000 in
theorem pure0_58 (a0 : Int) : allB 40 (fun i => pureOk top.plainCall 253 (G a0 (58 + i)) pargs0 pres0) = true := by kernel_rfl
theorem pure0 (a0 : Int) (x0 : Nat) (h0 : 8 ≤ x0 ∧ x0 < 98) : ToldOk Tryz.prog (G a0 x0) 253 pargs0 pres0 := by
  refine pureOk_ok (named_ok a0 x0) (top.plain_ok _) (by kernel_rfl) (by kernel_rfl) ?_
  by_cases hc : x0 < 58
  · have h := allB_spec (pure0_8 a0 ) (x0 - 8) (by omega)
    rw [show 8 + (x0 - 8) = x0 by omega] at h
    exact h
  by_cases hc : x0 < 98
  · have h := allB_spec (pure0_58 a0 ) (x0 - 58) (by omega)
    rw [show 58 + (x0 - 58) = x0 by omega] at h
    exact h
  · omega
end Go.Proofs.YtpficieiefgbfaaGreatDoor.topdepends.d2
namespace Go.Proofs.YtpficieiefgbfaaGreatDoor.topdepends.d3
open Go Vai
set_option linter.unusedVariables false
set_option linter.unusedSimpArgs false
set_option maxRecDepth 100000 in
theorem pure0_98 (a0 : Int) : allB 50 (fun i => pureOk top.plainCall 284 (G a0 (98 + i)) pargs0 pres0) = true := by kernel_rfl
set_option maxRecDepth 100000 in
theorem pure0_148 (a0 : Int) : allB 50 (fun i => pureOk top.plainCall 284 (G a0 (148 + i)) pargs0 pres0) = true := by kernel_rfl
set_option maxRecDepth 100000 in
theorem pure0_198 (a0 : Int) : allB 50 (fun i => pureOk top.plainCall 284 (G a0 (198 + i)) pargs0 pres0) = true := by kernel_rfl
set_option maxRecDepth 100000 in
theorem pure0_248 (a0 : Int) : allB 2 (fun i => pureOk top.plainCall 284 (G a0 (248 + i)) pargs0 pres0) = true := by kernel_rfl
theorem pure0 (a0 : Int) (x0 : Nat) (h0 : 98 ≤ x0 ∧ x0 < 250) : ToldOk Tryz.prog (G a0 x0) 284 pargs0 pres0 := by
  refine pureOk_ok (named_ok a0 x0) (top.plain_ok _) (by kernel_rfl) (by kernel_rfl) ?_
  by_cases hc : x0 < 148
  · have h := allB_spec (pure0_98 a0 ) (x0 - 98) (by omega)
    rw [show 98 + (x0 - 98) = x0 by omega] at h
    exact h
  by_cases hc : x0 < 198
  · have h := allB_spec (pure0_148 a0 ) (x0 - 148) (by omega)
    rw [show 148 + (x0 - 148) = x0 by omega] at h
    exact h
  by_cases hc : x0 < 248
  · have h := allB_spec (pure0_198 a0 ) (x0 - 198) (by omega)
    rw [show 198 + (x0 - 198) = x0 by omega] at h
    exact h
  by_cases hc : x0 < 250
  · have h := allB_spec (pure0_248 a0 ) (x0 - 248) (by omega)
    rw [show 248 + (x0 - 248) = x0 by omega] at h
    exact h
  · omega
end Go.Proofs.YtpficieiefgbfaaGreatDoor.topdepends.d3
