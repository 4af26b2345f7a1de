/- The law TopLasts: calls of plain functions over the classes. -/
import Derived.Test.YtemmgompegkgkaaGreatDoorTB
import Derived.Test.YtemmgompegkgkaaGreatDoorTopLastsT0
import Derived.Test.YtemmgompegkgkaaGreatDoorTopLastsT1
import Derived.KernelRfl
namespace Go.Proofs.YtemmgompegkgkaaGreatDoor.toplasts.d1w0t
open Go Vai
set_option linter.unusedVariables false
set_option linter.unusedSimpArgs false
set_option maxRecDepth 100000 in
theorem pure0_0 (a0 : Int) (a1 : Int) : allB 10 (fun i => pureOk top.plainCall 11 (G a0 a1 (0 + i)) pargs0 pres0) = true := by kernel_rfl
theorem pure0 (a0 : Int) (a1 : Int) (x0 : Nat) (h0 : 0 ≤ x0 ∧ x0 < 10) : ToldOk Tryz.prog (G a0 a1 x0) 11 pargs0 pres0 := by
  refine pureOk_ok (named_ok a0 a1 x0) (top.plain_ok _) (by kernel_rfl) (by kernel_rfl) ?_
  by_cases hc : x0 < 10
  · have h := allB_spec (pure0_0 a0 a1 ) (x0 - 0) (by omega)
    rw [show 0 + (x0 - 0) = x0 by omega] at h
    exact h
  · omega
end Go.Proofs.YtemmgompegkgkaaGreatDoor.toplasts.d1w0t
namespace Go.Proofs.YtemmgompegkgkaaGreatDoor.toplasts.d1w0t
open Go Vai
set_option linter.unusedVariables false
set_option linter.unusedSimpArgs false
set_option maxRecDepth 100000 in
theorem pure1_0 (a0 : Int) (a1 : Int) : allB 10 (fun i => pureOk top.plainCall 257 (G a0 a1 (0 + i)) pargs1 pres1) = true := by kernel_rfl
theorem pure1 (a0 : Int) (a1 : Int) (x0 : Nat) (h0 : 0 ≤ x0 ∧ x0 < 10) : ToldOk Tryz.prog (G a0 a1 x0) 257 pargs1 pres1 := by
  refine pureOk_ok (named_ok a0 a1 x0) (top.plain_ok _) (by kernel_rfl) (by kernel_rfl) ?_
  by_cases hc : x0 < 10
  · have h := allB_spec (pure1_0 a0 a1 ) (x0 - 0) (by omega)
    rw [show 0 + (x0 - 0) = x0 by omega] at h
    exact h
  · omega
end Go.Proofs.YtemmgompegkgkaaGreatDoor.toplasts.d1w0t
namespace Go.Proofs.YtemmgompegkgkaaGreatDoor.toplasts.d1w1t
open Go Vai
set_option linter.unusedVariables false
set_option linter.unusedSimpArgs false
set_option maxRecDepth 100000 in
theorem pure0_0 (a0 : Int) (a1 : Int) (x1 : Nat) : allB 10 (fun i => pureOk top.plainCall 11 (G a0 a1 (0 + i) x1) pargs0 pres0) = true := by kernel_rfl
theorem pure0 (a0 : Int) (a1 : Int) (x0 : Nat) (x1 : Nat) (h0 : 0 ≤ x0 ∧ x0 < 10) (h1 : 1 ≤ x1 ∧ x1 < 600) : ToldOk Tryz.prog (G a0 a1 x0 x1) 11 pargs0 pres0 := by
  refine pureOk_ok (named_ok a0 a1 x0 x1) (top.plain_ok _) (by kernel_rfl) (by kernel_rfl) ?_
  by_cases hc : x0 < 10
  · have h := allB_spec (pure0_0 a0 a1 x1) (x0 - 0) (by omega)
    rw [show 0 + (x0 - 0) = x0 by omega] at h
    exact h
  · omega
end Go.Proofs.YtemmgompegkgkaaGreatDoor.toplasts.d1w1t
namespace Go.Proofs.YtemmgompegkgkaaGreatDoor.toplasts.d1w1t
open Go Vai
set_option linter.unusedVariables false
set_option linter.unusedSimpArgs false
set_option maxRecDepth 100000 in
theorem pure1_0 (a0 : Int) (a1 : Int) (x1 : Nat) : allB 10 (fun i => pureOk top.plainCall 257 (G a0 a1 (0 + i) x1) pargs1 pres1) = true := by kernel_rfl
theorem pure1 (a0 : Int) (a1 : Int) (x0 : Nat) (x1 : Nat) (h0 : 0 ≤ x0 ∧ x0 < 10) (h1 : 1 ≤ x1 ∧ x1 < 600) : ToldOk Tryz.prog (G a0 a1 x0 x1) 257 pargs1 pres1 := by
  refine pureOk_ok (named_ok a0 a1 x0 x1) (top.plain_ok _) (by kernel_rfl) (by kernel_rfl) ?_
  by_cases hc : x0 < 10
  · have h := allB_spec (pure1_0 a0 a1 x1) (x0 - 0) (by omega)
    rw [show 0 + (x0 - 0) = x0 by omega] at h
    exact h
  · omega
end Go.Proofs.YtemmgompegkgkaaGreatDoor.toplasts.d1w1t
namespace Go.Proofs.YtemmgompegkgkaaGreatDoor.toplasts.d1w2t
open Go Vai
set_option linter.unusedVariables false
set_option linter.unusedSimpArgs false
set_option maxRecDepth 100000 in
theorem pure0_0 (a0 : Int) (a1 : Int) : allB 10 (fun i => pureOk top.plainCall 11 (G a0 a1 (0 + i)) pargs0 pres0) = true := by kernel_rfl
theorem pure0 (a0 : Int) (a1 : Int) (x0 : Nat) (h0 : 0 ≤ x0 ∧ x0 < 10) : ToldOk Tryz.prog (G a0 a1 x0) 11 pargs0 pres0 := by
  refine pureOk_ok (named_ok a0 a1 x0) (top.plain_ok _) (by kernel_rfl) (by kernel_rfl) ?_
  by_cases hc : x0 < 10
  · have h := allB_spec (pure0_0 a0 a1 ) (x0 - 0) (by omega)
    rw [show 0 + (x0 - 0) = x0 by omega] at h
    exact h
  · omega
end Go.Proofs.YtemmgompegkgkaaGreatDoor.toplasts.d1w2t
namespace Go.Proofs.YtemmgompegkgkaaGreatDoor.toplasts.d1w2t
open Go Vai
set_option linter.unusedVariables false
set_option linter.unusedSimpArgs false
set_option maxRecDepth 100000 in
theorem pure1_0 (a0 : Int) (a1 : Int) : allB 10 (fun i => pureOk top.plainCall 257 (G a0 a1 (0 + i)) pargs1 pres1) = true := by kernel_rfl
theorem pure1 (a0 : Int) (a1 : Int) (x0 : Nat) (h0 : 0 ≤ x0 ∧ x0 < 10) : ToldOk Tryz.prog (G a0 a1 x0) 257 pargs1 pres1 := by
  refine pureOk_ok (named_ok a0 a1 x0) (top.plain_ok _) (by kernel_rfl) (by kernel_rfl) ?_
  by_cases hc : x0 < 10
  · have h := allB_spec (pure1_0 a0 a1 ) (x0 - 0) (by omega)
    rw [show 0 + (x0 - 0) = x0 by omega] at h
    exact h
  · omega
end Go.Proofs.YtemmgompegkgkaaGreatDoor.toplasts.d1w2t
namespace Go.Proofs.YtemmgompegkgkaaGreatDoor.toplasts.d1w3t
open Go Vai
set_option linter.unusedVariables false
set_option linter.unusedSimpArgs false
set_option maxRecDepth 100000 in
theorem pure0_0 (a0 : Int) (a1 : Int) (x1 : Nat) : allB 10 (fun i => pureOk top.plainCall 11 (G a0 a1 (0 + i) x1) pargs0 pres0) = true := by kernel_rfl
theorem pure0 (a0 : Int) (a1 : Int) (x0 : Nat) (x1 : Nat) (h0 : 0 ≤ x0 ∧ x0 < 10) (h1 : 601 ≤ x1 ∧ x1 < 900) : ToldOk Tryz.prog (G a0 a1 x0 x1) 11 pargs0 pres0 := by
  refine pureOk_ok (named_ok a0 a1 x0 x1) (top.plain_ok _) (by kernel_rfl) (by kernel_rfl) ?_
  by_cases hc : x0 < 10
  · have h := allB_spec (pure0_0 a0 a1 x1) (x0 - 0) (by omega)
    rw [show 0 + (x0 - 0) = x0 by omega] at h
    exact h
  · omega
end Go.Proofs.YtemmgompegkgkaaGreatDoor.toplasts.d1w3t
namespace Go.Proofs.YtemmgompegkgkaaGreatDoor.toplasts.d1w3t
open Go Vai
set_option linter.unusedVariables false
set_option linter.unusedSimpArgs false
set_option maxRecDepth 100000 in
theorem pure1_0 (a0 : Int) (a1 : Int) (x1 : Nat) : allB 10 (fun i => pureOk top.plainCall 257 (G a0 a1 (0 + i) x1) pargs1 pres1) = true := by kernel_rfl
theorem pure1 (a0 : Int) (a1 : Int) (x0 : Nat) (x1 : Nat) (h0 : 0 ≤ x0 ∧ x0 < 10) (h1 : 601 ≤ x1 ∧ x1 < 900) : ToldOk Tryz.prog (G a0 a1 x0 x1) 257 pargs1 pres1 := by
  refine pureOk_ok (named_ok a0 a1 x0 x1) (top.plain_ok _) (by kernel_rfl) (by kernel_rfl) ?_
  by_cases hc : x0 < 10
  · have h := allB_spec (pure1_0 a0 a1 x1) (x0 - 0) (by omega)
    rw [show 0 + (x0 - 0) = x0 by omega] at h
    exact h
  · omega
end Go.Proofs.YtemmgompegkgkaaGreatDoor.toplasts.d1w3t
namespace Go.Proofs.YtemmgompegkgkaaGreatDoor.toplasts.d2w0t
open Go Vai
set_option linter.unusedVariables false
set_option linter.unusedSimpArgs false
set_option maxRecDepth 100000 in
theorem pure0_10 (a0 : Int) (a1 : Int) : allB 50 (fun i => pureOk top.plainCall 11 (G a0 a1 (10 + i)) pargs0 pres0) = true := by kernel_rfl
set_option maxRecDepth 100000 in
theorem pure0_60 (a0 : Int) (a1 : Int) : allB 40 (fun i => pureOk top.plainCall 11 (G a0 a1 (60 + i)) pargs0 pres0) = true := by kernel_rfl
theorem pure0 (a0 : Int) (a1 : Int) (x0 : Nat) (h0 : 10 ≤ x0 ∧ x0 < 100) : ToldOk Tryz.prog (G a0 a1 x0) 11 pargs0 pres0 := by
  refine pureOk_ok (named_ok a0 a1 x0) (top.plain_ok _) (by kernel_rfl) (by kernel_rfl) ?_
  by_cases hc : x0 < 60
  · have h := allB_spec (pure0_10 a0 a1 ) (x0 - 10) (by omega)
    rw [show 10 + (x0 - 10) = x0 by omega] at h
    exact h
  by_cases hc : x0 < 100
  · have h := allB_spec (pure0_60 a0 a1 ) (x0 - 60) (by omega)
    rw [show 60 + (x0 - 60) = x0 by omega] at h
    exact h
  · omega
end Go.Proofs.YtemmgompegkgkaaGreatDoor.toplasts.d2w0t
namespace Go.Proofs.YtemmgompegkgkaaGreatDoor.toplasts.d2w0t
open Go Vai
set_option linter.unusedVariables false
set_option linter.unusedSimpArgs false
set_option maxRecDepth 100000 in
theorem pure1_10 (a0 : Int) (a1 : Int) : allB 50 (fun i => pureOk top.plainCall 257 (G a0 a1 (10 + i)) pargs1 pres1) = true := by kernel_rfl
set_option maxRecDepth 100000 in
theorem pure1_60 (a0 : Int) (a1 : Int) : allB 40 (fun i => pureOk top.plainCall 257 (G a0 a1 (60 + i)) pargs1 pres1) = true := by kernel_rfl
theorem pure1 (a0 : Int) (a1 : Int) (x0 : Nat) (h0 : 10 ≤ x0 ∧ x0 < 100) : ToldOk Tryz.prog (G a0 a1 x0) 257 pargs1 pres1 := by
  refine pureOk_ok (named_ok a0 a1 x0) (top.plain_ok _) (by kernel_rfl) (by kernel_rfl) ?_
  by_cases hc : x0 < 60
  · have h := allB_spec (pure1_10 a0 a1 ) (x0 - 10) (by omega)
    rw [show 10 + (x0 - 10) = x0 by omega] at h
    exact h
  by_cases hc : x0 < 100
  · have h := allB_spec (pure1_60 a0 a1 ) (x0 - 60) (by omega)
    rw [show 60 + (x0 - 60) = x0 by omega] at h
    exact h
  · omega
end Go.Proofs.YtemmgompegkgkaaGreatDoor.toplasts.d2w0t
namespace Go.Proofs.YtemmgompegkgkaaGreatDoor.toplasts.d2w1t
open Go Vai
set_option linter.unusedVariables false
set_option linter.unusedSimpArgs false
set_option maxRecDepth 100000 in
theorem pure0_10 (a0 : Int) (a1 : Int) (x1 : Nat) : allB 50 (fun i => pureOk top.plainCall 11 (G a0 a1 (10 + i) x1) pargs0 pres0) = true := by kernel_rfl
set_option maxRecDepth 100000 in
theorem pure0_60 (a0 : Int) (a1 : Int) (x1 : Nat) : allB 40 (fun i => pureOk top.plainCall 11 (G a0 a1 (60 + i) x1) pargs0 pres0) = true := by kernel_rfl
theorem pure0 (a0 : Int) (a1 : Int) (x0 : Nat) (x1 : Nat) (h0 : 10 ≤ x0 ∧ x0 < 100) (h1 : 1 ≤ x1 ∧ x1 < 600) : ToldOk Tryz.prog (G a0 a1 x0 x1) 11 pargs0 pres0 := by
  refine pureOk_ok (named_ok a0 a1 x0 x1) (top.plain_ok _) (by kernel_rfl) (by kernel_rfl) ?_
  by_cases hc : x0 < 60
  · have h := allB_spec (pure0_10 a0 a1 x1) (x0 - 10) (by omega)
    rw [show 10 + (x0 - 10) = x0 by omega] at h
    exact h
  by_cases hc : x0 < 100
  · have h := allB_spec (pure0_60 a0 a1 x1) (x0 - 60) (by omega)
    rw [show 60 + (x0 - 60) = x0 by omega] at h
    exact h
  · omega
end Go.Proofs.YtemmgompegkgkaaGreatDoor.toplasts.d2w1t
namespace Go.Proofs.YtemmgompegkgkaaGreatDoor.toplasts.d2w1t
open Go Vai
set_option linter.unusedVariables false
set_option linter.unusedSimpArgs false
set_option maxRecDepth 100000 in
theorem pure1_10 (a0 : Int) (a1 : Int) (x1 : Nat) : allB 50 (fun i => pureOk top.plainCall 257 (G a0 a1 (10 + i) x1) pargs1 pres1) = true := by kernel_rfl
set_option maxRecDepth 100000 in
theorem pure1_60 (a0 : Int) (a1 : Int) (x1 : Nat) : allB 40 (fun i => pureOk top.plainCall 257 (G a0 a1 (60 + i) x1) pargs1 pres1) = true := by kernel_rfl
theorem pure1 (a0 : Int) (a1 : Int) (x0 : Nat) (x1 : Nat) (h0 : 10 ≤ x0 ∧ x0 < 100) (h1 : 1 ≤ x1 ∧ x1 < 600) : ToldOk Tryz.prog (G a0 a1 x0 x1) 257 pargs1 pres1 := by
  refine pureOk_ok (named_ok a0 a1 x0 x1) (top.plain_ok _) (by kernel_rfl) (by kernel_rfl) ?_
  by_cases hc : x0 < 60
  · have h := allB_spec (pure1_10 a0 a1 x1) (x0 - 10) (by omega)
    rw [show 10 + (x0 - 10) = x0 by omega] at h
    exact h
  by_cases hc : x0 < 100
  · have h := allB_spec (pure1_60 a0 a1 x1) (x0 - 60) (by omega)
    rw [show 60 + (x0 - 60) = x0 by omega] at h
    exact h
  · omega
end Go.Proofs.YtemmgompegkgkaaGreatDoor.toplasts.d2w1t
