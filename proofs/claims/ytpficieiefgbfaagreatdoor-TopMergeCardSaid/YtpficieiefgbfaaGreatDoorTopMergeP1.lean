/- The law TopMerge: calls of plain functions over the classes. -/
import Derived.Test.YtpficieiefgbfaaGreatDoorTB
import Derived.Test.YtpficieiefgbfaaGreatDoorTopMergeT0
import Derived.Test.YtpficieiefgbfaaGreatDoorTopMergeT1
import Derived.Test.YtpficieiefgbfaaGreatDoorTopMergeT2
import Derived.Test.YtpficieiefgbfaaGreatDoorTopMergeT3
import Derived.KernelRfl
namespace Go.Proofs.YtpficieiefgbfaaGreatDoor.topmerge.d12
open Go Vai
set_option linter.unusedVariables false
set_option linter.unusedSimpArgs false
set_option maxRecDepth 100000 in
theorem pure2_0 (a0 : Int) (a1 : Int) (x1 : Nat) : allB 10 (fun i => pureOk top.plainCall 253 (G a0 a1 (0 + i) x1) pargs2 pres2) = true := by kernel_rfl
theorem pure2 (a0 : Int) (a1 : Int) (x0 : Nat) (x1 : Nat) (h0 : 0 ≤ x0 ∧ x0 < 10) (h1 : 10 ≤ x1 ∧ x1 < 100) : ToldOk Tryz.prog (G a0 a1 x0 x1) 253 pargs2 pres2 := by
  refine pureOk_ok (named_ok a0 a1 x0 x1) (top.plain_ok _) (by kernel_rfl) (by kernel_rfl) ?_
  by_cases hc : x0 < 10
  · have h := allB_spec (pure2_0 a0 a1 x1) (x0 - 0) (by omega)
    rw [show 0 + (x0 - 0) = x0 by omega] at h
    exact h
  · omega
end Go.Proofs.YtpficieiefgbfaaGreatDoor.topmerge.d12
namespace Go.Proofs.YtpficieiefgbfaaGreatDoor.topmerge.d12
open Go Vai
set_option linter.unusedVariables false
set_option linter.unusedSimpArgs false
set_option maxRecDepth 100000 in
theorem pure3_10 (a0 : Int) (a1 : Int) (x0 : Nat) : allB 50 (fun i => pureOk top.plainCall 253 (G a0 a1 x0 (10 + i)) pargs3 pres3) = true := by kernel_rfl
set_option maxRecDepth 100000 in
theorem pure3_60 (a0 : Int) (a1 : Int) (x0 : Nat) : allB 40 (fun i => pureOk top.plainCall 253 (G a0 a1 x0 (60 + i)) pargs3 pres3) = true := by kernel_rfl
theorem pure3 (a0 : Int) (a1 : Int) (x0 : Nat) (x1 : Nat) (h0 : 0 ≤ x0 ∧ x0 < 10) (h1 : 10 ≤ x1 ∧ x1 < 100) : ToldOk Tryz.prog (G a0 a1 x0 x1) 253 pargs3 pres3 := by
  refine pureOk_ok (named_ok a0 a1 x0 x1) (top.plain_ok _) (by kernel_rfl) (by kernel_rfl) ?_
  by_cases hc : x1 < 60
  · have h := allB_spec (pure3_10 a0 a1 x0) (x1 - 10) (by omega)
    rw [show 10 + (x1 - 10) = x1 by omega] at h
    exact h
  by_cases hc : x1 < 100
  · have h := allB_spec (pure3_60 a0 a1 x0) (x1 - 60) (by omega)
    rw [show 60 + (x1 - 60) = x1 by omega] at h
    exact h
  · omega
end Go.Proofs.YtpficieiefgbfaaGreatDoor.topmerge.d12
namespace Go.Proofs.YtpficieiefgbfaaGreatDoor.topmerge.d13
open Go Vai
set_option linter.unusedVariables false
set_option linter.unusedSimpArgs false
set_option maxRecDepth 100000 in
theorem pure0_0 (a0 : Int) (a1 : Int) (x1 : Nat) : allB 10 (fun i => pureOk top.plainCall 11 (G a0 a1 (0 + i) x1) pargs0 pres0) = true := by kernel_rfl
theorem pure0 (a0 : Int) (a1 : Int) (x0 : Nat) (x1 : Nat) (h0 : 0 ≤ x0 ∧ x0 < 10) (h1 : 100 ≤ x1 ∧ x1 < 200) : ToldOk Tryz.prog (G a0 a1 x0 x1) 11 pargs0 pres0 := by
  refine pureOk_ok (named_ok a0 a1 x0 x1) (top.plain_ok _) (by kernel_rfl) (by kernel_rfl) ?_
  by_cases hc : x0 < 10
  · have h := allB_spec (pure0_0 a0 a1 x1) (x0 - 0) (by omega)
    rw [show 0 + (x0 - 0) = x0 by omega] at h
    exact h
  · omega
end Go.Proofs.YtpficieiefgbfaaGreatDoor.topmerge.d13
namespace Go.Proofs.YtpficieiefgbfaaGreatDoor.topmerge.d13
open Go Vai
set_option linter.unusedVariables false
set_option linter.unusedSimpArgs false
set_option maxRecDepth 100000 in
theorem pure1_100 (a0 : Int) (a1 : Int) (x0 : Nat) : allB 50 (fun i => pureOk top.plainCall 11 (G a0 a1 x0 (100 + i)) pargs1 pres1) = true := by kernel_rfl
set_option maxRecDepth 100000 in
theorem pure1_150 (a0 : Int) (a1 : Int) (x0 : Nat) : allB 50 (fun i => pureOk top.plainCall 11 (G a0 a1 x0 (150 + i)) pargs1 pres1) = true := by kernel_rfl
theorem pure1 (a0 : Int) (a1 : Int) (x0 : Nat) (x1 : Nat) (h0 : 0 ≤ x0 ∧ x0 < 10) (h1 : 100 ≤ x1 ∧ x1 < 200) : ToldOk Tryz.prog (G a0 a1 x0 x1) 11 pargs1 pres1 := by
  refine pureOk_ok (named_ok a0 a1 x0 x1) (top.plain_ok _) (by kernel_rfl) (by kernel_rfl) ?_
  by_cases hc : x1 < 150
  · have h := allB_spec (pure1_100 a0 a1 x0) (x1 - 100) (by omega)
    rw [show 100 + (x1 - 100) = x1 by omega] at h
    exact h
  by_cases hc : x1 < 200
  · have h := allB_spec (pure1_150 a0 a1 x0) (x1 - 150) (by omega)
    rw [show 150 + (x1 - 150) = x1 by omega] at h
    exact h
  · omega
end Go.Proofs.YtpficieiefgbfaaGreatDoor.topmerge.d13
namespace Go.Proofs.YtpficieiefgbfaaGreatDoor.topmerge.d13
open Go Vai
set_option linter.unusedVariables false
set_option linter.unusedSimpArgs false
set_option maxRecDepth 100000 in
theorem pure2_0 (a0 : Int) (a1 : Int) (x1 : Nat) : allB 10 (fun i => pureOk top.plainCall 253 (G a0 a1 (0 + i) x1) pargs2 pres2) = true := by kernel_rfl
theorem pure2 (a0 : Int) (a1 : Int) (x0 : Nat) (x1 : Nat) (h0 : 0 ≤ x0 ∧ x0 < 10) (h1 : 100 ≤ x1 ∧ x1 < 200) : ToldOk Tryz.prog (G a0 a1 x0 x1) 253 pargs2 pres2 := by
  refine pureOk_ok (named_ok a0 a1 x0 x1) (top.plain_ok _) (by kernel_rfl) (by kernel_rfl) ?_
  by_cases hc : x0 < 10
  · have h := allB_spec (pure2_0 a0 a1 x1) (x0 - 0) (by omega)
    rw [show 0 + (x0 - 0) = x0 by omega] at h
    exact h
  · omega
end Go.Proofs.YtpficieiefgbfaaGreatDoor.topmerge.d13
namespace Go.Proofs.YtpficieiefgbfaaGreatDoor.topmerge.d13
open Go Vai
set_option linter.unusedVariables false
set_option linter.unusedSimpArgs false
set_option maxRecDepth 100000 in
theorem pure3_100 (a0 : Int) (a1 : Int) (x0 : Nat) : allB 50 (fun i => pureOk top.plainCall 284 (G a0 a1 x0 (100 + i)) pargs3 pres3) = true := by kernel_rfl
set_option maxRecDepth 100000 in
theorem pure3_150 (a0 : Int) (a1 : Int) (x0 : Nat) : allB 50 (fun i => pureOk top.plainCall 284 (G a0 a1 x0 (150 + i)) pargs3 pres3) = true := by kernel_rfl
theorem pure3 (a0 : Int) (a1 : Int) (x0 : Nat) (x1 : Nat) (h0 : 0 ≤ x0 ∧ x0 < 10) (h1 : 100 ≤ x1 ∧ x1 < 200) : ToldOk Tryz.prog (G a0 a1 x0 x1) 284 pargs3 pres3 := by
  refine pureOk_ok (named_ok a0 a1 x0 x1) (top.plain_ok _) (by kernel_rfl) (by kernel_rfl) ?_
  by_cases hc : x1 < 150
  · have h := allB_spec (pure3_100 a0 a1 x0) (x1 - 100) (by omega)
    rw [show 100 + (x1 - 100) = x1 by omega] at h
    exact h
  by_cases hc : x1 < 200
  · have h := allB_spec (pure3_150 a0 a1 x0) (x1 - 150) (by omega)
    rw [show 150 + (x1 - 150) = x1 by omega] at h
    exact h
  · omega
end Go.Proofs.YtpficieiefgbfaaGreatDoor.topmerge.d13
namespace Go.Proofs.YtpficieiefgbfaaGreatDoor.topmerge.d21
open Go Vai
set_option linter.unusedVariables false
set_option linter.unusedSimpArgs false
set_option maxRecDepth 100000 in
theorem pure0_10 (a0 : Int) (a1 : Int) (x1 : Nat) : allB 50 (fun i => pureOk top.plainCall 11 (G a0 a1 (10 + i) x1) pargs0 pres0) = true := by kernel_rfl
set_option maxRecDepth 100000 in
theorem pure0_60 (a0 : Int) (a1 : Int) (x1 : Nat) : allB 40 (fun i => pureOk top.plainCall 11 (G a0 a1 (60 + i) x1) pargs0 pres0) = true := by kernel_rfl
theorem pure0 (a0 : Int) (a1 : Int) (x0 : Nat) (x1 : Nat) (h0 : 10 ≤ x0 ∧ x0 < 100) (h1 : 0 ≤ x1 ∧ x1 < 10) : ToldOk Tryz.prog (G a0 a1 x0 x1) 11 pargs0 pres0 := by
  refine pureOk_ok (named_ok a0 a1 x0 x1) (top.plain_ok _) (by kernel_rfl) (by kernel_rfl) ?_
  by_cases hc : x0 < 60
  · have h := allB_spec (pure0_10 a0 a1 x1) (x0 - 10) (by omega)
    rw [show 10 + (x0 - 10) = x0 by omega] at h
    exact h
  by_cases hc : x0 < 100
  · have h := allB_spec (pure0_60 a0 a1 x1) (x0 - 60) (by omega)
    rw [show 60 + (x0 - 60) = x0 by omega] at h
    exact h
  · omega
end Go.Proofs.YtpficieiefgbfaaGreatDoor.topmerge.d21
namespace Go.Proofs.YtpficieiefgbfaaGreatDoor.topmerge.d21
open Go Vai
set_option linter.unusedVariables false
set_option linter.unusedSimpArgs false
set_option maxRecDepth 100000 in
theorem pure1_0 (a0 : Int) (a1 : Int) (x0 : Nat) : allB 10 (fun i => pureOk top.plainCall 11 (G a0 a1 x0 (0 + i)) pargs1 pres1) = true := by kernel_rfl
theorem pure1 (a0 : Int) (a1 : Int) (x0 : Nat) (x1 : Nat) (h0 : 10 ≤ x0 ∧ x0 < 100) (h1 : 0 ≤ x1 ∧ x1 < 10) : ToldOk Tryz.prog (G a0 a1 x0 x1) 11 pargs1 pres1 := by
  refine pureOk_ok (named_ok a0 a1 x0 x1) (top.plain_ok _) (by kernel_rfl) (by kernel_rfl) ?_
  by_cases hc : x1 < 10
  · have h := allB_spec (pure1_0 a0 a1 x0) (x1 - 0) (by omega)
    rw [show 0 + (x1 - 0) = x1 by omega] at h
    exact h
  · omega
end Go.Proofs.YtpficieiefgbfaaGreatDoor.topmerge.d21
