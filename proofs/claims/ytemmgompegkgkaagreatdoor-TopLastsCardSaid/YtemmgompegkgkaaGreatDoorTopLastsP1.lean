/- The law TopLasts: calls of plain functions over the classes. -/
import Derived.Test.YtemmgompegkgkaaGreatDoorTB
import Derived.Test.YtemmgompegkgkaaGreatDoorTopLastsT0
import Derived.Test.YtemmgompegkgkaaGreatDoorTopLastsT1
import Derived.KernelRfl
namespace Go.Proofs.YtemmgompegkgkaaGreatDoor.toplasts.d2w2f
open Go Vai
set_option linter.unusedVariables false
set_option linter.unusedSimpArgs false
set_option maxRecDepth 100000 in
theorem pure0_10 (a0 : Int) (a1 : Int) : allB 50 (fun i => pureOk top.plainCall 11 (G a0 a1 (10 + i)) pargs0 pres0) = true := by kernel_rfl
set_option maxRecDepth 100000 in
theorem pure0_60 (a0 : Int) (a1 : Int) : allB 40 (fun i => pureOk top.plainCall 11 (G a0 a1 (60 + i)) pargs0 pres0) = true := by kernel_rfl
theorem pure0 (a0 : Int) (a1 : Int) (x0 : Nat) (h0 : 10 ≤ x0 ∧ x0 < 100) : ToldOk Tryz.prog (G a0 a1 x0) 11 pargs0 pres0 := by
  refine pureOk_ok (named_ok a0 a1 x0) (top.plain_ok _) (by kernel_rfl) (by kernel_rfl) ?_
  by_cases hc : x0 < 60
  · have h := allB_spec (pure0_10 a0 a1 ) (x0 - 10) (by omega)
    rw [show 10 + (x0 - 10) = x0 by omega] at h
    exact h
  by_cases hc : x0 < 100
  · have h := allB_spec (pure0_60 a0 a1 ) (x0 - 60) (by omega)
    rw [show 60 + (x0 - 60) = x0 by omega] at h
    exact h
  · omega
end Go.Proofs.YtemmgompegkgkaaGreatDoor.toplasts.d2w2f
namespace Go.Proofs.YtemmgompegkgkaaGreatDoor.toplasts.d2w2f
open Go Vai
set_option linter.unusedVariables false
set_option linter.unusedSimpArgs false
set_option maxRecDepth 100000 in
theorem pure1_10 (a0 : Int) (a1 : Int) : allB 50 (fun i => pureOk top.plainCall 257 (G a0 a1 (10 + i)) pargs1 pres1) = true := by kernel_rfl
set_option maxRecDepth 100000 in
theorem pure1_60 (a0 : Int) (a1 : Int) : allB 40 (fun i => pureOk top.plainCall 257 (G a0 a1 (60 + i)) pargs1 pres1) = true := by kernel_rfl
theorem pure1 (a0 : Int) (a1 : Int) (x0 : Nat) (h0 : 10 ≤ x0 ∧ x0 < 100) : ToldOk Tryz.prog (G a0 a1 x0) 257 pargs1 pres1 := by
  refine pureOk_ok (named_ok a0 a1 x0) (top.plain_ok _) (by kernel_rfl) (by kernel_rfl) ?_
  by_cases hc : x0 < 60
  · have h := allB_spec (pure1_10 a0 a1 ) (x0 - 10) (by omega)
    rw [show 10 + (x0 - 10) = x0 by omega] at h
    exact h
  by_cases hc : x0 < 100
  · have h := allB_spec (pure1_60 a0 a1 ) (x0 - 60) (by omega)
    rw [show 60 + (x0 - 60) = x0 by omega] at h
    exact h
  · omega
end Go.Proofs.YtemmgompegkgkaaGreatDoor.toplasts.d2w2f
namespace Go.Proofs.YtemmgompegkgkaaGreatDoor.toplasts.d2w3f
open Go Vai
set_option linter.unusedVariables false
set_option linter.unusedSimpArgs false
set_option maxRecDepth 100000 in
theorem pure0_10 (a0 : Int) (a1 : Int) (x1 : Nat) : allB 50 (fun i => pureOk top.plainCall 11 (G a0 a1 (10 + i) x1) pargs0 pres0) = true := by kernel_rfl
set_option maxRecDepth 100000 in
theorem pure0_60 (a0 : Int) (a1 : Int) (x1 : Nat) : allB 40 (fun i => pureOk top.plainCall 11 (G a0 a1 (60 + i) x1) pargs0 pres0) = true := by kernel_rfl
theorem pure0 (a0 : Int) (a1 : Int) (x0 : Nat) (x1 : Nat) (h0 : 10 ≤ x0 ∧ x0 < 100) (h1 : 601 ≤ x1 ∧ x1 < 900) : ToldOk Tryz.prog (G a0 a1 x0 x1) 11 pargs0 pres0 := by
  refine pureOk_ok (named_ok a0 a1 x0 x1) (top.plain_ok _) (by kernel_rfl) (by kernel_rfl) ?_
  by_cases hc : x0 < 60
  · have h := allB_spec (pure0_10 a0 a1 x1) (x0 - 10) (by omega)
    rw [show 10 + (x0 - 10) = x0 by omega] at h
    exact h
  by_cases hc : x0 < 100
  · have h := allB_spec (pure0_60 a0 a1 x1) (x0 - 60) (by omega)
    rw [show 60 + (x0 - 60) = x0 by omega] at h
    exact h
  · omega
end Go.Proofs.YtemmgompegkgkaaGreatDoor.toplasts.d2w3f
namespace Go.Proofs.YtemmgompegkgkaaGreatDoor.toplasts.d2w3f
open Go Vai
set_option linter.unusedVariables false
set_option linter.unusedSimpArgs false
set_option maxRecDepth 100000 in
theorem pure1_10 (a0 : Int) (a1 : Int) (x1 : Nat) : allB 50 (fun i => pureOk top.plainCall 257 (G a0 a1 (10 + i) x1) pargs1 pres1) = true := by kernel_rfl
set_option maxRecDepth 100000 in
theorem pure1_60 (a0 : Int) (a1 : Int) (x1 : Nat) : allB 40 (fun i => pureOk top.plainCall 257 (G a0 a1 (60 + i) x1) pargs1 pres1) = true := by kernel_rfl
theorem pure1 (a0 : Int) (a1 : Int) (x0 : Nat) (x1 : Nat) (h0 : 10 ≤ x0 ∧ x0 < 100) (h1 : 601 ≤ x1 ∧ x1 < 900) : ToldOk Tryz.prog (G a0 a1 x0 x1) 257 pargs1 pres1 := by
  refine pureOk_ok (named_ok a0 a1 x0 x1) (top.plain_ok _) (by kernel_rfl) (by kernel_rfl) ?_
  by_cases hc : x0 < 60
  · have h := allB_spec (pure1_10 a0 a1 x1) (x0 - 10) (by omega)
    rw [show 10 + (x0 - 10) = x0 by omega] at h
    exact h
  by_cases hc : x0 < 100
  · have h := allB_spec (pure1_60 a0 a1 x1) (x0 - 60) (by omega)
    rw [show 60 + (x0 - 60) = x0 by omega] at h
    exact h
  · omega
end Go.Proofs.YtemmgompegkgkaaGreatDoor.toplasts.d2w3f
namespace Go.Proofs.YtemmgompegkgkaaGreatDoor.toplasts.d3w0f
open Go Vai
set_option linter.unusedVariables false
set_option linter.unusedSimpArgs false
set_option maxRecDepth 100000 in
theorem pure0_100 (a0 : Int) (a1 : Int) : allB 50 (fun i => pureOk top.plainCall 11 (G a0 a1 (100 + i)) pargs0 pres0) = true := by kernel_rfl
set_option maxRecDepth 100000 in
theorem pure0_150 (a0 : Int) (a1 : Int) : allB 50 (fun i => pureOk top.plainCall 11 (G a0 a1 (150 + i)) pargs0 pres0) = true := by kernel_rfl
set_option maxRecDepth 100000 in
theorem pure0_200 (a0 : Int) (a1 : Int) : allB 50 (fun i => pureOk top.plainCall 11 (G a0 a1 (200 + i)) pargs0 pres0) = true := by kernel_rfl
theorem pure0 (a0 : Int) (a1 : Int) (x0 : Nat) (h0 : 100 ≤ x0 ∧ x0 < 250) : ToldOk Tryz.prog (G a0 a1 x0) 11 pargs0 pres0 := by
  refine pureOk_ok (named_ok a0 a1 x0) (top.plain_ok _) (by kernel_rfl) (by kernel_rfl) ?_
  by_cases hc : x0 < 150
  · have h := allB_spec (pure0_100 a0 a1 ) (x0 - 100) (by omega)
    rw [show 100 + (x0 - 100) = x0 by omega] at h
    exact h
  by_cases hc : x0 < 200
  · have h := allB_spec (pure0_150 a0 a1 ) (x0 - 150) (by omega)
    rw [show 150 + (x0 - 150) = x0 by omega] at h
    exact h
  by_cases hc : x0 < 250
  · have h := allB_spec (pure0_200 a0 a1 ) (x0 - 200) (by omega)
    rw [show 200 + (x0 - 200) = x0 by omega] at h
    exact h
  · omega
end Go.Proofs.YtemmgompegkgkaaGreatDoor.toplasts.d3w0f
namespace Go.Proofs.YtemmgompegkgkaaGreatDoor.toplasts.d3w0f
open Go Vai
set_option linter.unusedVariables false
set_option linter.unusedSimpArgs false
set_option maxRecDepth 100000 in
theorem pure1_100 (a0 : Int) (a1 : Int) : allB 50 (fun i => pureOk top.plainCall 288 (G a0 a1 (100 + i)) pargs1 pres1) = true := by kernel_rfl
set_option maxRecDepth 100000 in
theorem pure1_150 (a0 : Int) (a1 : Int) : allB 50 (fun i => pureOk top.plainCall 288 (G a0 a1 (150 + i)) pargs1 pres1) = true := by kernel_rfl
set_option maxRecDepth 100000 in
theorem pure1_200 (a0 : Int) (a1 : Int) : allB 50 (fun i => pureOk top.plainCall 288 (G a0 a1 (200 + i)) pargs1 pres1) = true := by kernel_rfl
theorem pure1 (a0 : Int) (a1 : Int) (x0 : Nat) (h0 : 100 ≤ x0 ∧ x0 < 250) : ToldOk Tryz.prog (G a0 a1 x0) 288 pargs1 pres1 := by
  refine pureOk_ok (named_ok a0 a1 x0) (top.plain_ok _) (by kernel_rfl) (by kernel_rfl) ?_
  by_cases hc : x0 < 150
  · have h := allB_spec (pure1_100 a0 a1 ) (x0 - 100) (by omega)
    rw [show 100 + (x0 - 100) = x0 by omega] at h
    exact h
  by_cases hc : x0 < 200
  · have h := allB_spec (pure1_150 a0 a1 ) (x0 - 150) (by omega)
    rw [show 150 + (x0 - 150) = x0 by omega] at h
    exact h
  by_cases hc : x0 < 250
  · have h := allB_spec (pure1_200 a0 a1 ) (x0 - 200) (by omega)
    rw [show 200 + (x0 - 200) = x0 by omega] at h
    exact h
  · omega
end Go.Proofs.YtemmgompegkgkaaGreatDoor.toplasts.d3w0f
namespace Go.Proofs.YtemmgompegkgkaaGreatDoor.toplasts.d3w1f
open Go Vai
set_option linter.unusedVariables false
set_option linter.unusedSimpArgs false
set_option maxRecDepth 100000 in
theorem pure0_100 (a0 : Int) (a1 : Int) (x1 : Nat) : allB 50 (fun i => pureOk top.plainCall 11 (G a0 a1 (100 + i) x1) pargs0 pres0) = true := by kernel_rfl
set_option maxRecDepth 100000 in
theorem pure0_150 (a0 : Int) (a1 : Int) (x1 : Nat) : allB 50 (fun i => pureOk top.plainCall 11 (G a0 a1 (150 + i) x1) pargs0 pres0) = true := by kernel_rfl
set_option maxRecDepth 100000 in
theorem pure0_200 (a0 : Int) (a1 : Int) (x1 : Nat) : allB 50 (fun i => pureOk top.plainCall 11 (G a0 a1 (200 + i) x1) pargs0 pres0) = true := by kernel_rfl
theorem pure0 (a0 : Int) (a1 : Int) (x0 : Nat) (x1 : Nat) (h0 : 100 ≤ x0 ∧ x0 < 250) (h1 : 1 ≤ x1 ∧ x1 < 600) : ToldOk Tryz.prog (G a0 a1 x0 x1) 11 pargs0 pres0 := by
  refine pureOk_ok (named_ok a0 a1 x0 x1) (top.plain_ok _) (by kernel_rfl) (by kernel_rfl) ?_
  by_cases hc : x0 < 150
  · have h := allB_spec (pure0_100 a0 a1 x1) (x0 - 100) (by omega)
    rw [show 100 + (x0 - 100) = x0 by omega] at h
    exact h
  by_cases hc : x0 < 200
  · have h := allB_spec (pure0_150 a0 a1 x1) (x0 - 150) (by omega)
    rw [show 150 + (x0 - 150) = x0 by omega] at h
    exact h
  by_cases hc : x0 < 250
  · have h := allB_spec (pure0_200 a0 a1 x1) (x0 - 200) (by omega)
    rw [show 200 + (x0 - 200) = x0 by omega] at h
    exact h
  · omega
end Go.Proofs.YtemmgompegkgkaaGreatDoor.toplasts.d3w1f
namespace Go.Proofs.YtemmgompegkgkaaGreatDoor.toplasts.d3w1f
open Go Vai
set_option linter.unusedVariables false
set_option linter.unusedSimpArgs false
set_option maxRecDepth 100000 in
theorem pure1_100 (a0 : Int) (a1 : Int) (x1 : Nat) : allB 50 (fun i => pureOk top.plainCall 288 (G a0 a1 (100 + i) x1) pargs1 pres1) = true := by kernel_rfl
set_option maxRecDepth 100000 in
theorem pure1_150 (a0 : Int) (a1 : Int) (x1 : Nat) : allB 50 (fun i => pureOk top.plainCall 288 (G a0 a1 (150 + i) x1) pargs1 pres1) = true := by kernel_rfl
set_option maxRecDepth 100000 in
theorem pure1_200 (a0 : Int) (a1 : Int) (x1 : Nat) : allB 50 (fun i => pureOk top.plainCall 288 (G a0 a1 (200 + i) x1) pargs1 pres1) = true := by kernel_rfl
theorem pure1 (a0 : Int) (a1 : Int) (x0 : Nat) (x1 : Nat) (h0 : 100 ≤ x0 ∧ x0 < 250) (h1 : 1 ≤ x1 ∧ x1 < 600) : ToldOk Tryz.prog (G a0 a1 x0 x1) 288 pargs1 pres1 := by
  refine pureOk_ok (named_ok a0 a1 x0 x1) (top.plain_ok _) (by kernel_rfl) (by kernel_rfl) ?_
  by_cases hc : x0 < 150
  · have h := allB_spec (pure1_100 a0 a1 x1) (x0 - 100) (by omega)
    rw [show 100 + (x0 - 100) = x0 by omega] at h
    exact h
  by_cases hc : x0 < 200
  · have h := allB_spec (pure1_150 a0 a1 x1) (x0 - 150) (by omega)
    rw [show 150 + (x0 - 150) = x0 by omega] at h
    exact h
  by_cases hc : x0 < 250
  · have h := allB_spec (pure1_200 a0 a1 x1) (x0 - 200) (by omega)
    rw [show 200 + (x0 - 200) = x0 by omega] at h
    exact h
  · omega
end Go.Proofs.YtemmgompegkgkaaGreatDoor.toplasts.d3w1f
namespace Go.Proofs.YtemmgompegkgkaaGreatDoor.toplasts.d3w2f
open Go Vai
set_option linter.unusedVariables false
set_option linter.unusedSimpArgs false
set_option maxRecDepth 100000 in
theorem pure0_100 (a0 : Int) (a1 : Int) : allB 50 (fun i => pureOk top.plainCall 11 (G a0 a1 (100 + i)) pargs0 pres0) = true := by kernel_rfl
set_option maxRecDepth 100000 in
theorem pure0_150 (a0 : Int) (a1 : Int) : allB 50 (fun i => pureOk top.plainCall 11 (G a0 a1 (150 + i)) pargs0 pres0) = true := by kernel_rfl
set_option maxRecDepth 100000 in
theorem pure0_200 (a0 : Int) (a1 : Int) : allB 50 (fun i => pureOk top.plainCall 11 (G a0 a1 (200 + i)) pargs0 pres0) = true := by kernel_rfl
theorem pure0 (a0 : Int) (a1 : Int) (x0 : Nat) (h0 : 100 ≤ x0 ∧ x0 < 250) : ToldOk Tryz.prog (G a0 a1 x0) 11 pargs0 pres0 := by
  refine pureOk_ok (named_ok a0 a1 x0) (top.plain_ok _) (by kernel_rfl) (by kernel_rfl) ?_
  by_cases hc : x0 < 150
  · have h := allB_spec (pure0_100 a0 a1 ) (x0 - 100) (by omega)
    rw [show 100 + (x0 - 100) = x0 by omega] at h
    exact h
  by_cases hc : x0 < 200
  · have h := allB_spec (pure0_150 a0 a1 ) (x0 - 150) (by omega)
    rw [show 150 + (x0 - 150) = x0 by omega] at h
    exact h
  by_cases hc : x0 < 250
  · have h := allB_spec (pure0_200 a0 a1 ) (x0 - 200) (by omega)
    rw [show 200 + (x0 - 200) = x0 by omega] at h
    exact h
  · omega
end Go.Proofs.YtemmgompegkgkaaGreatDoor.toplasts.d3w2f
namespace Go.Proofs.YtemmgompegkgkaaGreatDoor.toplasts.d3w2f
open Go Vai
set_option linter.unusedVariables false
set_option linter.unusedSimpArgs false
set_option maxRecDepth 100000 in
theorem pure1_100 (a0 : Int) (a1 : Int) : allB 50 (fun i => pureOk top.plainCall 288 (G a0 a1 (100 + i)) pargs1 pres1) = true := by kernel_rfl
set_option maxRecDepth 100000 in
theorem pure1_150 (a0 : Int) (a1 : Int) : allB 50 (fun i => pureOk top.plainCall 288 (G a0 a1 (150 + i)) pargs1 pres1) = true := by kernel_rfl
set_option maxRecDepth 100000 in
theorem pure1_200 (a0 : Int) (a1 : Int) : allB 50 (fun i => pureOk top.plainCall 288 (G a0 a1 (200 + i)) pargs1 pres1) = true := by kernel_rfl
theorem pure1 (a0 : Int) (a1 : Int) (x0 : Nat) (h0 : 100 ≤ x0 ∧ x0 < 250) : ToldOk Tryz.prog (G a0 a1 x0) 288 pargs1 pres1 := by
  refine pureOk_ok (named_ok a0 a1 x0) (top.plain_ok _) (by kernel_rfl) (by kernel_rfl) ?_
  by_cases hc : x0 < 150
  · have h := allB_spec (pure1_100 a0 a1 ) (x0 - 100) (by omega)
    rw [show 100 + (x0 - 100) = x0 by omega] at h
    exact h
  by_cases hc : x0 < 200
  · have h := allB_spec (pure1_150 a0 a1 ) (x0 - 150) (by omega)
    rw [show 150 + (x0 - 150) = x0 by omega] at h
    exact h
  by_cases hc : x0 < 250
  · have h := allB_spec (pure1_200 a0 a1 ) (x0 - 200) (by omega)
    rw [show 200 + (x0 - 200) = x0 by omega] at h
    exact h
  · omega
end Go.Proofs.YtemmgompegkgkaaGreatDoor.toplasts.d3w2f
namespace Go.Proofs.YtemmgompegkgkaaGreatDoor.toplasts.d3w3f
open Go Vai
set_option linter.unusedVariables false
set_option linter.unusedSimpArgs false
set_option maxRecDepth 100000 in
theorem pure0_100 (a0 : Int) (a1 : Int) (x1 : Nat) : allB 50 (fun i => pureOk top.plainCall 11 (G a0 a1 (100 + i) x1) pargs0 pres0) = true := by kernel_rfl
set_option maxRecDepth 100000 in
theorem pure0_150 (a0 : Int) (a1 : Int) (x1 : Nat) : allB 50 (fun i => pureOk top.plainCall 11 (G a0 a1 (150 + i) x1) pargs0 pres0) = true := by kernel_rfl
set_option maxRecDepth 100000 in
theorem pure0_200 (a0 : Int) (a1 : Int) (x1 : Nat) : allB 50 (fun i => pureOk top.plainCall 11 (G a0 a1 (200 + i) x1) pargs0 pres0) = true := by kernel_rfl
theorem pure0 (a0 : Int) (a1 : Int) (x0 : Nat) (x1 : Nat) (h0 : 100 ≤ x0 ∧ x0 < 250) (h1 : 601 ≤ x1 ∧ x1 < 900) : ToldOk Tryz.prog (G a0 a1 x0 x1) 11 pargs0 pres0 := by
  refine pureOk_ok (named_ok a0 a1 x0 x1) (top.plain_ok _) (by kernel_rfl) (by kernel_rfl) ?_
  by_cases hc : x0 < 150
  · have h := allB_spec (pure0_100 a0 a1 x1) (x0 - 100) (by omega)
    rw [show 100 + (x0 - 100) = x0 by omega] at h
    exact h
  by_cases hc : x0 < 200
  · have h := allB_spec (pure0_150 a0 a1 x1) (x0 - 150) (by omega)
    rw [show 150 + (x0 - 150) = x0 by omega] at h
    exact h
  by_cases hc : x0 < 250
  · have h := allB_spec (pure0_200 a0 a1 x1) (x0 - 200) (by omega)
    rw [show 200 + (x0 - 200) = x0 by omega] at h
    exact h
  · omega
end Go.Proofs.YtemmgompegkgkaaGreatDoor.toplasts.d3w3f
namespace Go.Proofs.YtemmgompegkgkaaGreatDoor.toplasts.d3w3f
open Go Vai
set_option linter.unusedVariables false
set_option linter.unusedSimpArgs false
set_option maxRecDepth 100000 in
theorem pure1_100 (a0 : Int) (a1 : Int) (x1 : Nat) : allB 50 (fun i => pureOk top.plainCall 288 (G a0 a1 (100 + i) x1) pargs1 pres1) = true := by kernel_rfl
set_option maxRecDepth 100000 in
theorem pure1_150 (a0 : Int) (a1 : Int) (x1 : Nat) : allB 50 (fun i => pureOk top.plainCall 288 (G a0 a1 (150 + i) x1) pargs1 pres1) = true := by kernel_rfl
set_option maxRecDepth 100000 in
theorem pure1_200 (a0 : Int) (a1 : Int) (x1 : Nat) : allB 50 (fun i => pureOk top.plainCall 288 (G a0 a1 (200 + i) x1) pargs1 pres1) = true := by kernel_rfl
theorem pure1 (a0 : Int) (a1 : Int) (x0 : Nat) (x1 : Nat) (h0 : 100 ≤ x0 ∧ x0 < 250) (h1 : 601 ≤ x1 ∧ x1 < 900) : ToldOk Tryz.prog (G a0 a1 x0 x1) 288 pargs1 pres1 := by
  refine pureOk_ok (named_ok a0 a1 x0 x1) (top.plain_ok _) (by kernel_rfl) (by kernel_rfl) ?_
  by_cases hc : x0 < 150
  · have h := allB_spec (pure1_100 a0 a1 x1) (x0 - 100) (by omega)
    rw [show 100 + (x0 - 100) = x0 by omega] at h
    exact h
  by_cases hc : x0 < 200
  · have h := allB_spec (pure1_150 a0 a1 x1) (x0 - 150) (by omega)
    rw [show 150 + (x0 - 150) = x0 by omega] at h
    exact h
  by_cases hc : x0 < 250
  · have h := allB_spec (pure1_200 a0 a1 x1) (x0 - 200) (by omega)
    rw [show 200 + (x0 - 200) = x0 by omega] at h
    exact h
  · omega
end Go.Proofs.YtemmgompegkgkaaGreatDoor.toplasts.d3w3f
