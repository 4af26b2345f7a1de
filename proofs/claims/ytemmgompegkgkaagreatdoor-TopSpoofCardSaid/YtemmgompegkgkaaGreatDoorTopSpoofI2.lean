/- The law TopSpoof: it is true over the classes. -/
import Derived.Test.YtemmgompegkgkaaGreatDoorTopSpoofR0
import Derived.Test.YtemmgompegkgkaaGreatDoorTopSpoofC0
import Derived.Test.YtemmgompegkgkaaGreatDoorTopSpoofC1
import Derived.Test.YtemmgompegkgkaaGreatDoorTopSpoofC2
import Derived.Test.YtemmgompegkgkaaGreatDoorTopSpoofC3
import Derived.Test.YtemmgompegkgkaaGreatDoorTopSpoofC4
import Derived.Test.YtemmgompegkgkaaGreatDoorTopSpoofC5
import Derived.Test.YtemmgompegkgkaaGreatDoorTopSpoofC6
import Derived.Test.YtemmgompegkgkaaGreatDoorTopSpoofC7
import Derived.Test.YtemmgompegkgkaaGreatDoorTopSpoofC8
import Derived.Test.YtemmgompegkgkaaGreatDoorTopSpoofC9
import Derived.Test.YtemmgompegkgkaaGreatDoorTopSpoofC10
import Derived.Test.YtemmgompegkgkaaGreatDoorTopSpoofC11
import Derived.Test.YtemmgompegkgkaaGreatDoorTopSpoofC12
import Derived.Test.YtemmgompegkgkaaGreatDoorTopSpoofC13
import Derived.Test.YtemmgompegkgkaaGreatDoorTopSpoofC14
import Derived.Test.YtemmgompegkgkaaGreatDoorTopSpoofC15
import Derived.Test.YtemmgompegkgkaaGreatDoorTopSpoofC16
import Derived.Test.YtemmgompegkgkaaGreatDoorTopSpoofC17
import Derived.KernelRfl
namespace Go.Proofs.YtemmgompegkgkaaGreatDoor.topspoof.k2
open Go Vai
set_option linter.unusedVariables false
set_option linter.unusedSimpArgs false
open Go.RowKit
noncomputable def S1 : CallF := (orS (ckE 10 args0 keep0 ex0 res0 out0) (orS (ckE 12 args1 keep1 ex1 res1 out1) (orS (ckE 22 args2 keep2 ex2 res2 out2) (orS (ckE 14 args3 keep3 ex3 res3 out3) (orS (ckE 22 args4 keep4 ex4 res4 out4) (orS (ckE 14 args5 keep5 ex5 res5 out5) S0))))))
noncomputable def args : Array Value := #[.chan (some 4096), .chan (some 4097)]
set_option maxRecDepth 100000 in
theorem run : saidOf (evalFnR Tryz.prog X S1 (drawD3 Tryz.prog X) 600 4 args (gMem top.gl)) = some true := by kernel_rfl
theorem word (a0 : Int) (a1 : Int) (w0 : -9223372036854775808 ≤ a0 ∧ a0 ≤ 9223372036854775807) (w1 : -9223372036854775808 ≤ a1 ∧ a1 ≤ 9223372036854775807) (e0 : (a0.tmod 3).natAbs = 2) (W : World) (hgl : ∀ G, GOk G W top.gl) : Calls Tryz.prog 4 #[.int .i64 a0, .int .i64 a1] W fun e w' => e = .returned (.bool true) ∧ Below W.heap.size W w' := by
  have hc : CallOk Tryz.prog (G a0 a1 ) (evalFnR Tryz.prog X S1 (drawD3 Tryz.prog X) 600) := call_ok a0 a1    w0 w1  (orS_ok (ckE_ok (call_ok a0 a1    w0 w1  (S0_ok a0 a1    w0 w1  e0)) ck0 ckx0) (orS_ok (ckE_ok (call_ok a0 a1    w0 w1  (S0_ok a0 a1    w0 w1  e0)) ck1 ckx1) (orS_ok (ckE_ok (call_ok a0 a1    w0 w1  (S0_ok a0 a1    w0 w1  e0)) ck2 ckx2) (orS_ok (ckE_ok (call_ok a0 a1    w0 w1  (S0_ok a0 a1    w0 w1  e0)) ck3 ckx3) (orS_ok (ckE_ok (call_ok a0 a1    w0 w1  (S0_ok a0 a1    w0 w1  e0)) ck4 ckx4) (orS_ok (ckE_ok (call_ok a0 a1    w0 w1  (S0_ok a0 a1    w0 w1  e0)) ck5 ckx5) (S0_ok a0 a1    w0 w1  e0)))))))
  have h := law_of_evalG (W := W) (named_ok a0 a1 ) hc (args := args) (by simp [args, wfA, wfL, wf]) run (hgl _)
  rw [concA_names (named_ok a0 a1 ) (args := args) (by kernel_rfl)] at h
  have ha : (⟨args.toList.map (gv (G a0 a1 ))⟩ : Array Value) = #[.int .i64 a0, .int .i64 a1] := by
    show (⟨[gv (G a0 a1 ) (.chan (some 4096)), gv (G a0 a1 ) (.chan (some 4097))]⟩ : Array Value) = _
    rw [gv_chan 4096, gb0 a0 a1 , gv_chan 4097, gb1 a0 a1 ]
    all_goals rfl
  rw [ha] at h
  exact h
end Go.Proofs.YtemmgompegkgkaaGreatDoor.topspoof.k2
