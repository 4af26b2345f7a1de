/- The law TopMerge: calls of plain functions over the classes. -/
import Derived.Test.YtpficieiefgbfaaGreatDoorTB
import Derived.Test.YtpficieiefgbfaaGreatDoorTopMergeT0
import Derived.Test.YtpficieiefgbfaaGreatDoorTopMergeT1
import Derived.Test.YtpficieiefgbfaaGreatDoorTopMergeT2
import Derived.Test.YtpficieiefgbfaaGreatDoorTopMergeT3
import Derived.KernelRfl
namespace Go.Proofs.YtpficieiefgbfaaGreatDoor.topmerge.l3
open Go Vai
set_option linter.unusedVariables false
set_option linter.unusedSimpArgs false
set_option maxRecDepth 100000 in
theorem pure2_100 (a0 : Int) (a1 : Int) (x1 : Nat) : allB 50 (fun i => pureOk top.plainCall 284 (G a0 a1 (100 + i) x1) pargs2 pres2) = true := by kernel_rfl
set_option maxRecDepth 100000 in
theorem pure2_150 (a0 : Int) (a1 : Int) (x1 : Nat) : allB 49 (fun i => pureOk top.plainCall 284 (G a0 a1 (150 + i) x1) pargs2 pres2) = true := by kernel_rfl
theorem pure2 (a0 : Int) (a1 : Int) (x0 : Nat) (x1 : Nat) (h0 : 100 ≤ x0 ∧ x0 < 199) (h1 : 101 ≤ x1 ∧ x1 < 200) : ToldOk Tryz.prog (G a0 a1 x0 x1) 284 pargs2 pres2 := by
  refine pureOk_ok (named_ok a0 a1 x0 x1) (top.plain_ok _) (by kernel_rfl) (by kernel_rfl) ?_
  by_cases hc : x0 < 150
  · have h := allB_spec (pure2_100 a0 a1 x1) (x0 - 100) (by omega)
    rw [show 100 + (x0 - 100) = x0 by omega] at h
    exact h
  by_cases hc : x0 < 199
  · have h := allB_spec (pure2_150 a0 a1 x1) (x0 - 150) (by omega)
    rw [show 150 + (x0 - 150) = x0 by omega] at h
    exact h
  · omega
end Go.Proofs.YtpficieiefgbfaaGreatDoor.topmerge.l3
namespace Go.Proofs.YtpficieiefgbfaaGreatDoor.topmerge.l3
open Go Vai
set_option linter.unusedVariables false
set_option linter.unusedSimpArgs false
set_option maxRecDepth 100000 in
theorem pure3_101 (a0 : Int) (a1 : Int) (x0 : Nat) : allB 50 (fun i => pureOk top.plainCall 284 (G a0 a1 x0 (101 + i)) pargs3 pres3) = true := by kernel_rfl
set_option maxRecDepth 100000 in
theorem pure3_151 (a0 : Int) (a1 : Int) (x0 : Nat) : allB 49 (fun i => pureOk top.plainCall 284 (G a0 a1 x0 (151 + i)) pargs3 pres3) = true := by kernel_rfl
theorem pure3 (a0 : Int) (a1 : Int) (x0 : Nat) (x1 : Nat) (h0 : 100 ≤ x0 ∧ x0 < 199) (h1 : 101 ≤ x1 ∧ x1 < 200) : ToldOk Tryz.prog (G a0 a1 x0 x1) 284 pargs3 pres3 := by
  refine pureOk_ok (named_ok a0 a1 x0 x1) (top.plain_ok _) (by kernel_rfl) (by kernel_rfl) ?_
  by_cases hc : x1 < 151
  · have h := allB_spec (pure3_101 a0 a1 x0) (x1 - 101) (by omega)
    rw [show 101 + (x1 - 101) = x1 by omega] at h
    exact h
  by_cases hc : x1 < 200
  · have h := allB_spec (pure3_151 a0 a1 x0) (x1 - 151) (by omega)
    rw [show 151 + (x1 - 151) = x1 by omega] at h
    exact h
  · omega
end Go.Proofs.YtpficieiefgbfaaGreatDoor.topmerge.l3
namespace Go.Proofs.YtpficieiefgbfaaGreatDoor.topmerge.g1
open Go Vai
set_option linter.unusedVariables false
set_option linter.unusedSimpArgs false
set_option maxRecDepth 100000 in
theorem pure0_1 (a0 : Int) (a1 : Int) (x1 : Nat) : allB 9 (fun i => pureOk top.plainCall 11 (G a0 a1 (1 + i) x1) pargs0 pres0) = true := by kernel_rfl
theorem pure0 (a0 : Int) (a1 : Int) (x0 : Nat) (x1 : Nat) (h0 : 1 ≤ x0 ∧ x0 < 10) (h1 : 0 ≤ x1 ∧ x1 < 9) : ToldOk Tryz.prog (G a0 a1 x0 x1) 11 pargs0 pres0 := by
  refine pureOk_ok (named_ok a0 a1 x0 x1) (top.plain_ok _) (by kernel_rfl) (by kernel_rfl) ?_
  by_cases hc : x0 < 10
  · have h := allB_spec (pure0_1 a0 a1 x1) (x0 - 1) (by omega)
    rw [show 1 + (x0 - 1) = x0 by omega] at h
    exact h
  · omega
end Go.Proofs.YtpficieiefgbfaaGreatDoor.topmerge.g1
namespace Go.Proofs.YtpficieiefgbfaaGreatDoor.topmerge.g1
open Go Vai
set_option linter.unusedVariables false
set_option linter.unusedSimpArgs false
set_option maxRecDepth 100000 in
theorem pure1_0 (a0 : Int) (a1 : Int) (x0 : Nat) : allB 9 (fun i => pureOk top.plainCall 11 (G a0 a1 x0 (0 + i)) pargs1 pres1) = true := by kernel_rfl
theorem pure1 (a0 : Int) (a1 : Int) (x0 : Nat) (x1 : Nat) (h0 : 1 ≤ x0 ∧ x0 < 10) (h1 : 0 ≤ x1 ∧ x1 < 9) : ToldOk Tryz.prog (G a0 a1 x0 x1) 11 pargs1 pres1 := by
  refine pureOk_ok (named_ok a0 a1 x0 x1) (top.plain_ok _) (by kernel_rfl) (by kernel_rfl) ?_
  by_cases hc : x1 < 9
  · have h := allB_spec (pure1_0 a0 a1 x0) (x1 - 0) (by omega)
    rw [show 0 + (x1 - 0) = x1 by omega] at h
    exact h
  · omega
end Go.Proofs.YtpficieiefgbfaaGreatDoor.topmerge.g1
namespace Go.Proofs.YtpficieiefgbfaaGreatDoor.topmerge.g1
open Go Vai
set_option linter.unusedVariables false
set_option linter.unusedSimpArgs false
set_option maxRecDepth 100000 in
theorem pure2_1 (a0 : Int) (a1 : Int) (x1 : Nat) : allB 9 (fun i => pureOk top.plainCall 253 (G a0 a1 (1 + i) x1) pargs2 pres2) = true := by kernel_rfl
theorem pure2 (a0 : Int) (a1 : Int) (x0 : Nat) (x1 : Nat) (h0 : 1 ≤ x0 ∧ x0 < 10) (h1 : 0 ≤ x1 ∧ x1 < 9) : ToldOk Tryz.prog (G a0 a1 x0 x1) 253 pargs2 pres2 := by
  refine pureOk_ok (named_ok a0 a1 x0 x1) (top.plain_ok _) (by kernel_rfl) (by kernel_rfl) ?_
  by_cases hc : x0 < 10
  · have h := allB_spec (pure2_1 a0 a1 x1) (x0 - 1) (by omega)
    rw [show 1 + (x0 - 1) = x0 by omega] at h
    exact h
  · omega
end Go.Proofs.YtpficieiefgbfaaGreatDoor.topmerge.g1
namespace Go.Proofs.YtpficieiefgbfaaGreatDoor.topmerge.g1
open Go Vai
set_option linter.unusedVariables false
set_option linter.unusedSimpArgs false
set_option maxRecDepth 100000 in
theorem pure3_0 (a0 : Int) (a1 : Int) (x0 : Nat) : allB 9 (fun i => pureOk top.plainCall 253 (G a0 a1 x0 (0 + i)) pargs3 pres3) = true := by kernel_rfl
theorem pure3 (a0 : Int) (a1 : Int) (x0 : Nat) (x1 : Nat) (h0 : 1 ≤ x0 ∧ x0 < 10) (h1 : 0 ≤ x1 ∧ x1 < 9) : ToldOk Tryz.prog (G a0 a1 x0 x1) 253 pargs3 pres3 := by
  refine pureOk_ok (named_ok a0 a1 x0 x1) (top.plain_ok _) (by kernel_rfl) (by kernel_rfl) ?_
  by_cases hc : x1 < 9
  · have h := allB_spec (pure3_0 a0 a1 x0) (x1 - 0) (by omega)
    rw [show 0 + (x1 - 0) = x1 by omega] at h
    exact h
  · omega
end Go.Proofs.YtpficieiefgbfaaGreatDoor.topmerge.g1
namespace Go.Proofs.YtpficieiefgbfaaGreatDoor.topmerge.g2
open Go Vai
set_option linter.unusedVariables false
set_option linter.unusedSimpArgs false
set_option maxRecDepth 100000 in
theorem pure0_11 (a0 : Int) (a1 : Int) (x1 : Nat) : allB 50 (fun i => pureOk top.plainCall 11 (G a0 a1 (11 + i) x1) pargs0 pres0) = true := by kernel_rfl
set_option maxRecDepth 100000 in
theorem pure0_61 (a0 : Int) (a1 : Int) (x1 : Nat) : allB 39 (fun i => pureOk top.plainCall 11 (G a0 a1 (61 + i) x1) pargs0 pres0) = true := by kernel_rfl
theorem pure0 (a0 : Int) (a1 : Int) (x0 : Nat) (x1 : Nat) (h0 : 11 ≤ x0 ∧ x0 < 100) (h1 : 10 ≤ x1 ∧ x1 < 99) : ToldOk Tryz.prog (G a0 a1 x0 x1) 11 pargs0 pres0 := by
  refine pureOk_ok (named_ok a0 a1 x0 x1) (top.plain_ok _) (by kernel_rfl) (by kernel_rfl) ?_
  by_cases hc : x0 < 61
  · have h := allB_spec (pure0_11 a0 a1 x1) (x0 - 11) (by omega)
    rw [show 11 + (x0 - 11) = x0 by omega] at h
    exact h
  by_cases hc : x0 < 100
  · have h := allB_spec (pure0_61 a0 a1 x1) (x0 - 61) (by omega)
    rw [show 61 + (x0 - 61) = x0 by omega] at h
    exact h
  · omega
end Go.Proofs.YtpficieiefgbfaaGreatDoor.topmerge.g2
namespace Go.Proofs.YtpficieiefgbfaaGreatDoor.topmerge.g2
open Go Vai
set_option linter.unusedVariables false
set_option linter.unusedSimpArgs false
set_option maxRecDepth 100000 in
theorem pure1_10 (a0 : Int) (a1 : Int) (x0 : Nat) : allB 50 (fun i => pureOk top.plainCall 11 (G a0 a1 x0 (10 + i)) pargs1 pres1) = true := by kernel_rfl
set_option maxRecDepth 100000 in
theorem pure1_60 (a0 : Int) (a1 : Int) (x0 : Nat) : allB 39 (fun i => pureOk top.plainCall 11 (G a0 a1 x0 (60 + i)) pargs1 pres1) = true := by kernel_rfl
theorem pure1 (a0 : Int) (a1 : Int) (x0 : Nat) (x1 : Nat) (h0 : 11 ≤ x0 ∧ x0 < 100) (h1 : 10 ≤ x1 ∧ x1 < 99) : ToldOk Tryz.prog (G a0 a1 x0 x1) 11 pargs1 pres1 := by
  refine pureOk_ok (named_ok a0 a1 x0 x1) (top.plain_ok _) (by kernel_rfl) (by kernel_rfl) ?_
  by_cases hc : x1 < 60
  · have h := allB_spec (pure1_10 a0 a1 x0) (x1 - 10) (by omega)
    rw [show 10 + (x1 - 10) = x1 by omega] at h
    exact h
  by_cases hc : x1 < 99
  · have h := allB_spec (pure1_60 a0 a1 x0) (x1 - 60) (by omega)
    rw [show 60 + (x1 - 60) = x1 by omega] at h
    exact h
  · omega
end Go.Proofs.YtpficieiefgbfaaGreatDoor.topmerge.g2
