/- The law TopDepends: it is true over the classes. -/
import Derived.Test.YtpficieiefgbfaaGreatDoorTopDependsR0
import Derived.Test.YtpficieiefgbfaaGreatDoorTopDependsC0
import Derived.Test.YtpficieiefgbfaaGreatDoorTopDependsC1
import Derived.Test.YtpficieiefgbfaaGreatDoorTopDependsC2
import Derived.Test.YtpficieiefgbfaaGreatDoorTopDependsC3
import Derived.Test.YtpficieiefgbfaaGreatDoorTopDependsC4
import Derived.Test.YtpficieiefgbfaaGreatDoorTopDependsC5
import Derived.Test.YtpficieiefgbfaaGreatDoorTopDependsC6
import Derived.Test.YtpficieiefgbfaaGreatDoorTopDependsC7
import Derived.Test.YtpficieiefgbfaaGreatDoorTopDependsC8
import Derived.KernelRfl
namespace Go.Proofs.YtpficieiefgbfaaGreatDoor.topdepends.d2
open Go Vai
set_option linter.unusedVariables false
set_option linter.unusedSimpArgs false
open Go.RowKit
noncomputable def S1 : CallF := (orS (ckE 10 args0 keep0 ex0 res0 out0) (orS (ckE 12 args1 keep1 ex1 res1 out1) (orS (ckE 12 args2 keep2 ex2 res2 out2) S0)))
noncomputable def args : Array Value := #[.chan (some 4096)]
set_option maxRecDepth 100000 in
theorem run : saidOf (evalFnR Tryz.prog X S1 (drawD3 Tryz.prog X) 600 7 args (gMem top.gl)) = some true := by kernel_rfl
theorem word (a0 : Int) (x0 : Nat) (h0 : 8 ≤ x0 ∧ x0 < 98) (w0 : -9223372036854775808 ≤ a0 ∧ a0 ≤ 9223372036854775807) (e0 : (a0.tmod 250).natAbs = x0) (W : World) (hgl : ∀ G, GOk G W top.gl) : Calls Tryz.prog 7 #[.int .i64 a0] W fun e w' => e = .returned (.bool true) ∧ Below W.heap.size W w' := by
  have hc : CallOk Tryz.prog (G a0 x0) (evalFnR Tryz.prog X S1 (drawD3 Tryz.prog X) 600) := call_ok a0 x0 h0  (orS_ok (ckE_ok (call_ok a0 x0 h0  (S0_ok a0 x0 h0  w0 e0)) ck0 ckx0) (orS_ok (ckE_ok (call_ok a0 x0 h0  (S0_ok a0 x0 h0  w0 e0)) ck1 ckx1) (orS_ok (ckE_ok (call_ok a0 x0 h0  (S0_ok a0 x0 h0  w0 e0)) ck2 ckx2) (S0_ok a0 x0 h0  w0 e0))))
  have h := law_of_evalG (W := W) (named_ok a0 x0) hc (args := args) (by simp [args, wfA, wfL, wf]) run (hgl _)
  rw [concA_names (named_ok a0 x0) (args := args) (by kernel_rfl)] at h
  have ha : (⟨args.toList.map (gv (G a0 x0))⟩ : Array Value) = #[.int .i64 a0] := by
    show (⟨[gv (G a0 x0) (.chan (some 4096))]⟩ : Array Value) = _
    rw [gv_chan 4096, gb0 a0 x0]
    all_goals rfl
  rw [ha] at h
  exact h
end Go.Proofs.YtpficieiefgbfaaGreatDoor.topdepends.d2
