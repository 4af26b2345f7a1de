/- The law TopLife: it is true over the classes. -/
import Derived.Test.YtemmgompegkgkaaGreatDoorTopLifeR0
import Derived.KernelRfl
namespace Go.Proofs.YtemmgompegkgkaaGreatDoor.toplife.m0
open Go Vai
set_option linter.unusedVariables false
set_option linter.unusedSimpArgs false
open Go.RowKit
noncomputable def S1 : CallF := S0
noncomputable def args : Array Value := #[.chan (some 4096), .chan (some 4097)]
set_option maxRecDepth 100000 in
theorem run : saidOf (evalFnR Tryz.prog X S1 (drawD3 Tryz.prog X) 600 5 args (gMem top.gl)) = some true := by kernel_rfl
theorem word (a0 : Int) (a1 : Int) (x0 : Nat) (h0 : 1 ≤ x0 ∧ x0 < 86401) (w0 : -9223372036854775808 ≤ a0 ∧ a0 ≤ 9223372036854775807) (w1 : -9223372036854775808 ≤ a1 ∧ a1 ≤ 9223372036854775807) (e1 : (a1.tmod 100000).natAbs = 0) (W : World) (hgl : ∀ G, GOk G W top.gl) : Calls Tryz.prog 5 #[.int .i64 (.ofNat x0), .int .i64 a1] W fun e w' => e = .returned (.bool true) ∧ Below W.heap.size W w' := by
  have hc : CallOk Tryz.prog (G a0 a1 x0) (evalFnR Tryz.prog X S1 (drawD3 Tryz.prog X) 600) := call_ok a0 a1 x0 h0  w0 w1  (S0_ok a0 a1 x0 h0  w0 w1  e1)
  have h := law_of_evalG (W := W) (named_ok a0 a1 x0) hc (args := args) (by simp [args, wfA, wfL, wf]) run (hgl _)
  rw [concA_names (named_ok a0 a1 x0) (args := args) (by kernel_rfl)] at h
  have ha : (⟨args.toList.map (gv (G a0 a1 x0))⟩ : Array Value) = #[.int .i64 (.ofNat x0), .int .i64 a1] := by
    show (⟨[gv (G a0 a1 x0) (.chan (some 4096)), gv (G a0 a1 x0) (.chan (some 4097))]⟩ : Array Value) = _
    rw [gv_chan 4096, gb0 a0 a1 x0, gv_chan 4097, gb1 a0 a1 x0]
    all_goals rfl
  rw [ha] at h
  exact h
end Go.Proofs.YtemmgompegkgkaaGreatDoor.toplife.m0
namespace Go.Proofs.YtemmgompegkgkaaGreatDoor.toplife.ml
open Go Vai
set_option linter.unusedVariables false
set_option linter.unusedSimpArgs false
open Go.RowKit
noncomputable def S1 : CallF := S0
noncomputable def args : Array Value := #[.chan (some 4096), .chan (some 4097)]
set_option maxRecDepth 100000 in
theorem run : saidOf (evalFnR Tryz.prog X S1 (drawD3 Tryz.prog X) 600 5 args (gMem top.gl)) = some true := by kernel_rfl
theorem word (a0 : Int) (a1 : Int) (x0 : Nat) (x1 : Nat) (h0 : 2 ≤ x0 ∧ x0 < 86401) (h1 : 1 ≤ x1 ∧ x1 < 86400) (r0 : x1 < x0) (w0 : -9223372036854775808 ≤ a0 ∧ a0 ≤ 9223372036854775807) (w1 : -9223372036854775808 ≤ a1 ∧ a1 ≤ 9223372036854775807) (e1 : (a1.tmod 100000).natAbs = x1) (W : World) (hgl : ∀ G, GOk G W top.gl) : Calls Tryz.prog 5 #[.int .i64 (.ofNat x0), .int .i64 a1] W fun e w' => e = .returned (.bool true) ∧ Below W.heap.size W w' := by
  have hc : CallOk Tryz.prog (G a0 a1 x0 x1) (evalFnR Tryz.prog X S1 (drawD3 Tryz.prog X) 600) := call_ok a0 a1 x0 x1 h0 h1 r0 w0 w1  (S0_ok a0 a1 x0 x1 h0 h1 r0 w0 w1  e1)
  have h := law_of_evalG (W := W) (named_ok a0 a1 x0 x1) hc (args := args) (by simp [args, wfA, wfL, wf]) run (hgl _)
  rw [concA_names (named_ok a0 a1 x0 x1) (args := args) (by kernel_rfl)] at h
  have ha : (⟨args.toList.map (gv (G a0 a1 x0 x1))⟩ : Array Value) = #[.int .i64 (.ofNat x0), .int .i64 a1] := by
    show (⟨[gv (G a0 a1 x0 x1) (.chan (some 4096)), gv (G a0 a1 x0 x1) (.chan (some 4097))]⟩ : Array Value) = _
    rw [gv_chan 4096, gb0 a0 a1 x0 x1, gv_chan 4097, gb1 a0 a1 x0 x1]
    all_goals rfl
  rw [ha] at h
  exact h
end Go.Proofs.YtemmgompegkgkaaGreatDoor.toplife.ml
