/- The law TopFiles: the calls of the evaluator over its code, and states of the memory. -/
import Derived.Test.YtpficieiefgbfaaGreatDoorTB
import Derived.Test.YtpficieiefgbfaaGreatDoorTG
import Derived.Test.YtpficieiefgbfaaGreatDoorSM
import Derived.Test.YtpficieiefgbfaaGreatDoorTopFilesT0
import Derived.Test.YtpficieiefgbfaaGreatDoorTopFilesT1
import Derived.Test.YtpficieiefgbfaaGreatDoorTopFilesT2
import Derived.Test.YtpficieiefgbfaaGreatDoorTopFilesT3
import Derived.Test.YtpficieiefgbfaaGreatDoorTopFilesT4
import Derived.Test.YtpficieiefgbfaaGreatDoorTopFilesP0
import Derived.Test.YtpficieiefgbfaaGreatDoorTopFilesP1
import Derived.Test.YtpficieiefgbfaaGreatDoorTopFilesP2
import Derived.Test.YtpficieiefgbfaaGreatDoorTopFilesP3
import Derived.Test.YtpficieiefgbfaaGreatDoorTopFilesP4
import Derived.KernelRfl
namespace Go.Proofs.YtpficieiefgbfaaGreatDoor.topfiles.d11
open Go Vai
set_option linter.unusedVariables false
set_option linter.unusedSimpArgs false
noncomputable def N : Names := Names.ofL tab
noncomputable def X : Extn := symX Tryz.prog N (extSym Tryz.prog N)
noncomputable def S0 : CallF := (orS (toldS 8 [] (.bool true)) (orS (namedS 9 4096 250 (.chan (some 4098))) (orS (namedS 9 4097 250 (.chan (some 4099))) (orS (toldS 253 pargs3 pres3) (orS (toldS 11 pargs2 pres2) (orS (toldS 253 pargs1 pres1) (orS (toldS 11 pargs0 pres0) (sumS 169 N crcs))))))))
noncomputable def call0 : CallF := evalFnR Tryz.prog X S0 (drawD3 Tryz.prog X) 600
theorem S0_ok (a0 : Int) (a1 : Int) (x0 : Nat) (x1 : Nat) (h0 : 0 ≤ x0 ∧ x0 < 10) (h1 : 0 ≤ x1 ∧ x1 < 10) (w0 : -9223372036854775808 ≤ a0 ∧ a0 ≤ 9223372036854775807) (w1 : -9223372036854775808 ≤ a1 ∧ a1 ≤ 9223372036854775807) (e0 : (a0.tmod 250).natAbs = x0) (e1 : (a1.tmod 250).natAbs = x1) : CallOk Tryz.prog (G a0 a1 x0 x1) S0 := by
  have hN : NamesOk (G a0 a1 x0 x1) N := names_ok a0 a1 x0 x1 h0 h1 
  exact (orS_ok (toldS_ok (named_ok a0 a1 x0 x1) rfl rfl (toldTrue (top.plain_ok _) top.begun_true)) (orS_ok (namedS_ok (named_ok a0 a1 x0 x1) (by decide) (by decide) rfl fun W => (by
    have hh := top.small_calls a0 250 (by decide) (by decide) W w0
    rw [e0] at hh
    rw [gb0 a0 a1 x0 x1, gv_chan 4098, gb2 a0 a1 x0 x1]
    exact hh)) (orS_ok (namedS_ok (named_ok a0 a1 x0 x1) (by decide) (by decide) rfl fun W => (by
    have hh := top.small_calls a1 250 (by decide) (by decide) W w1
    rw [e1] at hh
    rw [gb1 a0 a1 x0 x1, gv_chan 4099, gb3 a0 a1 x0 x1]
    exact hh)) (orS_ok (toldS_ok (named_ok a0 a1 x0 x1) (by kernel_rfl) (by kernel_rfl) (pure3 a0 a1 x0 x1 h0 h1)) (orS_ok (toldS_ok (named_ok a0 a1 x0 x1) (by kernel_rfl) (by kernel_rfl) (pure2 a0 a1 x0 x1 h0 h1)) (orS_ok (toldS_ok (named_ok a0 a1 x0 x1) (by kernel_rfl) (by kernel_rfl) (pure1 a0 a1 x0 x1 h0 h1)) (orS_ok (toldS_ok (named_ok a0 a1 x0 x1) (by kernel_rfl) (by kernel_rfl) (pure0 a0 a1 x0 x1 h0 h1)) (sumS_ok hN top.sum_ok (crc_ok a0 a1 x0 x1)))))))))
theorem call_ok (a0 : Int) (a1 : Int) (x0 : Nat) (x1 : Nat) (h0 : 0 ≤ x0 ∧ x0 < 10) (h1 : 0 ≤ x1 ∧ x1 < 10) {S : CallF} (hS : CallOk Tryz.prog (G a0 a1 x0 x1) S) : CallOk Tryz.prog (G a0 a1 x0 x1) (evalFnR Tryz.prog X S (drawD3 Tryz.prog X) 600) := by
  have hN : NamesOk (G a0 a1 x0 x1) N := names_ok a0 a1 x0 x1 h0 h1 
  have hX : ExtOk Tryz.prog (G a0 a1 x0 x1) X := symX_ok hN (extSym_ok hN)
  exact evalFnR_ok hX trivial hS (drawD3_ok hX trivial) 600
end Go.Proofs.YtpficieiefgbfaaGreatDoor.topfiles.d11
namespace Go.Proofs.YtpficieiefgbfaaGreatDoor.topfiles.d12
open Go Vai
set_option linter.unusedVariables false
set_option linter.unusedSimpArgs false
noncomputable def N : Names := Names.ofL tab
noncomputable def X : Extn := symX Tryz.prog N (extSym Tryz.prog N)
noncomputable def S0 : CallF := (orS (toldS 8 [] (.bool true)) (orS (namedS 9 4096 250 (.chan (some 4098))) (orS (namedS 9 4097 250 (.chan (some 4099))) (orS (toldS 253 pargs3 pres3) (orS (toldS 11 pargs2 pres2) (orS (toldS 253 pargs1 pres1) (orS (toldS 11 pargs0 pres0) (sumS 169 N crcs))))))))
noncomputable def call0 : CallF := evalFnR Tryz.prog X S0 (drawD3 Tryz.prog X) 600
theorem S0_ok (a0 : Int) (a1 : Int) (x0 : Nat) (x1 : Nat) (h0 : 0 ≤ x0 ∧ x0 < 10) (h1 : 10 ≤ x1 ∧ x1 < 100) (w0 : -9223372036854775808 ≤ a0 ∧ a0 ≤ 9223372036854775807) (w1 : -9223372036854775808 ≤ a1 ∧ a1 ≤ 9223372036854775807) (e0 : (a0.tmod 250).natAbs = x0) (e1 : (a1.tmod 250).natAbs = x1) : CallOk Tryz.prog (G a0 a1 x0 x1) S0 := by
  have hN : NamesOk (G a0 a1 x0 x1) N := names_ok a0 a1 x0 x1 h0 h1 
  exact (orS_ok (toldS_ok (named_ok a0 a1 x0 x1) rfl rfl (toldTrue (top.plain_ok _) top.begun_true)) (orS_ok (namedS_ok (named_ok a0 a1 x0 x1) (by decide) (by decide) rfl fun W => (by
    have hh := top.small_calls a0 250 (by decide) (by decide) W w0
    rw [e0] at hh
    rw [gb0 a0 a1 x0 x1, gv_chan 4098, gb2 a0 a1 x0 x1]
    exact hh)) (orS_ok (namedS_ok (named_ok a0 a1 x0 x1) (by decide) (by decide) rfl fun W => (by
    have hh := top.small_calls a1 250 (by decide) (by decide) W w1
    rw [e1] at hh
    rw [gb1 a0 a1 x0 x1, gv_chan 4099, gb3 a0 a1 x0 x1]
    exact hh)) (orS_ok (toldS_ok (named_ok a0 a1 x0 x1) (by kernel_rfl) (by kernel_rfl) (pure3 a0 a1 x0 x1 h0 h1)) (orS_ok (toldS_ok (named_ok a0 a1 x0 x1) (by kernel_rfl) (by kernel_rfl) (pure2 a0 a1 x0 x1 h0 h1)) (orS_ok (toldS_ok (named_ok a0 a1 x0 x1) (by kernel_rfl) (by kernel_rfl) (pure1 a0 a1 x0 x1 h0 h1)) (orS_ok (toldS_ok (named_ok a0 a1 x0 x1) (by kernel_rfl) (by kernel_rfl) (pure0 a0 a1 x0 x1 h0 h1)) (sumS_ok hN top.sum_ok (crc_ok a0 a1 x0 x1)))))))))
theorem call_ok (a0 : Int) (a1 : Int) (x0 : Nat) (x1 : Nat) (h0 : 0 ≤ x0 ∧ x0 < 10) (h1 : 10 ≤ x1 ∧ x1 < 100) {S : CallF} (hS : CallOk Tryz.prog (G a0 a1 x0 x1) S) : CallOk Tryz.prog (G a0 a1 x0 x1) (evalFnR Tryz.prog X S (drawD3 Tryz.prog X) 600) := by
  have hN : NamesOk (G a0 a1 x0 x1) N := names_ok a0 a1 x0 x1 h0 h1 
  have hX : ExtOk Tryz.prog (G a0 a1 x0 x1) X := symX_ok hN (extSym_ok hN)
  exact evalFnR_ok hX trivial hS (drawD3_ok hX trivial) 600
end Go.Proofs.YtpficieiefgbfaaGreatDoor.topfiles.d12
namespace Go.Proofs.YtpficieiefgbfaaGreatDoor.topfiles.d13
open Go Vai
set_option linter.unusedVariables false
set_option linter.unusedSimpArgs false
noncomputable def N : Names := Names.ofL tab
noncomputable def X : Extn := symX Tryz.prog N (extSym Tryz.prog N)
noncomputable def S0 : CallF := (orS (toldS 8 [] (.bool true)) (orS (namedS 9 4096 250 (.chan (some 4098))) (orS (namedS 9 4097 250 (.chan (some 4099))) (orS (toldS 284 pargs3 pres3) (orS (toldS 11 pargs2 pres2) (orS (toldS 253 pargs1 pres1) (orS (toldS 11 pargs0 pres0) (sumS 169 N crcs))))))))
noncomputable def call0 : CallF := evalFnR Tryz.prog X S0 (drawD3 Tryz.prog X) 600
theorem S0_ok (a0 : Int) (a1 : Int) (x0 : Nat) (x1 : Nat) (h0 : 0 ≤ x0 ∧ x0 < 10) (h1 : 100 ≤ x1 ∧ x1 < 250) (w0 : -9223372036854775808 ≤ a0 ∧ a0 ≤ 9223372036854775807) (w1 : -9223372036854775808 ≤ a1 ∧ a1 ≤ 9223372036854775807) (e0 : (a0.tmod 250).natAbs = x0) (e1 : (a1.tmod 250).natAbs = x1) : CallOk Tryz.prog (G a0 a1 x0 x1) S0 := by
  have hN : NamesOk (G a0 a1 x0 x1) N := names_ok a0 a1 x0 x1 h0 h1 
  exact (orS_ok (toldS_ok (named_ok a0 a1 x0 x1) rfl rfl (toldTrue (top.plain_ok _) top.begun_true)) (orS_ok (namedS_ok (named_ok a0 a1 x0 x1) (by decide) (by decide) rfl fun W => (by
    have hh := top.small_calls a0 250 (by decide) (by decide) W w0
    rw [e0] at hh
    rw [gb0 a0 a1 x0 x1, gv_chan 4098, gb2 a0 a1 x0 x1]
    exact hh)) (orS_ok (namedS_ok (named_ok a0 a1 x0 x1) (by decide) (by decide) rfl fun W => (by
    have hh := top.small_calls a1 250 (by decide) (by decide) W w1
    rw [e1] at hh
    rw [gb1 a0 a1 x0 x1, gv_chan 4099, gb3 a0 a1 x0 x1]
    exact hh)) (orS_ok (toldS_ok (named_ok a0 a1 x0 x1) (by kernel_rfl) (by kernel_rfl) (pure3 a0 a1 x0 x1 h0 h1)) (orS_ok (toldS_ok (named_ok a0 a1 x0 x1) (by kernel_rfl) (by kernel_rfl) (pure2 a0 a1 x0 x1 h0 h1)) (orS_ok (toldS_ok (named_ok a0 a1 x0 x1) (by kernel_rfl) (by kernel_rfl) (pure1 a0 a1 x0 x1 h0 h1)) (orS_ok (toldS_ok (named_ok a0 a1 x0 x1) (by kernel_rfl) (by kernel_rfl) (pure0 a0 a1 x0 x1 h0 h1)) (sumS_ok hN top.sum_ok (crc_ok a0 a1 x0 x1)))))))))
theorem call_ok (a0 : Int) (a1 : Int) (x0 : Nat) (x1 : Nat) (h0 : 0 ≤ x0 ∧ x0 < 10) (h1 : 100 ≤ x1 ∧ x1 < 250) {S : CallF} (hS : CallOk Tryz.prog (G a0 a1 x0 x1) S) : CallOk Tryz.prog (G a0 a1 x0 x1) (evalFnR Tryz.prog X S (drawD3 Tryz.prog X) 600) := by
  have hN : NamesOk (G a0 a1 x0 x1) N := names_ok a0 a1 x0 x1 h0 h1 
  have hX : ExtOk Tryz.prog (G a0 a1 x0 x1) X := symX_ok hN (extSym_ok hN)
  exact evalFnR_ok hX trivial hS (drawD3_ok hX trivial) 600
end Go.Proofs.YtpficieiefgbfaaGreatDoor.topfiles.d13
namespace Go.Proofs.YtpficieiefgbfaaGreatDoor.topfiles.d21
open Go Vai
set_option linter.unusedVariables false
set_option linter.unusedSimpArgs false
noncomputable def N : Names := Names.ofL tab
noncomputable def X : Extn := symX Tryz.prog N (extSym Tryz.prog N)
noncomputable def S0 : CallF := (orS (toldS 8 [] (.bool true)) (orS (namedS 9 4096 250 (.chan (some 4098))) (orS (namedS 9 4097 250 (.chan (some 4099))) (orS (toldS 253 pargs3 pres3) (orS (toldS 11 pargs2 pres2) (orS (toldS 253 pargs1 pres1) (orS (toldS 11 pargs0 pres0) (sumS 169 N crcs))))))))
noncomputable def call0 : CallF := evalFnR Tryz.prog X S0 (drawD3 Tryz.prog X) 600
theorem S0_ok (a0 : Int) (a1 : Int) (x0 : Nat) (x1 : Nat) (h0 : 10 ≤ x0 ∧ x0 < 100) (h1 : 0 ≤ x1 ∧ x1 < 10) (w0 : -9223372036854775808 ≤ a0 ∧ a0 ≤ 9223372036854775807) (w1 : -9223372036854775808 ≤ a1 ∧ a1 ≤ 9223372036854775807) (e0 : (a0.tmod 250).natAbs = x0) (e1 : (a1.tmod 250).natAbs = x1) : CallOk Tryz.prog (G a0 a1 x0 x1) S0 := by
  have hN : NamesOk (G a0 a1 x0 x1) N := names_ok a0 a1 x0 x1 h0 h1 
  exact (orS_ok (toldS_ok (named_ok a0 a1 x0 x1) rfl rfl (toldTrue (top.plain_ok _) top.begun_true)) (orS_ok (namedS_ok (named_ok a0 a1 x0 x1) (by decide) (by decide) rfl fun W => (by
    have hh := top.small_calls a0 250 (by decide) (by decide) W w0
    rw [e0] at hh
    rw [gb0 a0 a1 x0 x1, gv_chan 4098, gb2 a0 a1 x0 x1]
    exact hh)) (orS_ok (namedS_ok (named_ok a0 a1 x0 x1) (by decide) (by decide) rfl fun W => (by
    have hh := top.small_calls a1 250 (by decide) (by decide) W w1
    rw [e1] at hh
    rw [gb1 a0 a1 x0 x1, gv_chan 4099, gb3 a0 a1 x0 x1]
    exact hh)) (orS_ok (toldS_ok (named_ok a0 a1 x0 x1) (by kernel_rfl) (by kernel_rfl) (pure3 a0 a1 x0 x1 h0 h1)) (orS_ok (toldS_ok (named_ok a0 a1 x0 x1) (by kernel_rfl) (by kernel_rfl) (pure2 a0 a1 x0 x1 h0 h1)) (orS_ok (toldS_ok (named_ok a0 a1 x0 x1) (by kernel_rfl) (by kernel_rfl) (pure1 a0 a1 x0 x1 h0 h1)) (orS_ok (toldS_ok (named_ok a0 a1 x0 x1) (by kernel_rfl) (by kernel_rfl) (pure0 a0 a1 x0 x1 h0 h1)) (sumS_ok hN top.sum_ok (crc_ok a0 a1 x0 x1)))))))))
theorem call_ok (a0 : Int) (a1 : Int) (x0 : Nat) (x1 : Nat) (h0 : 10 ≤ x0 ∧ x0 < 100) (h1 : 0 ≤ x1 ∧ x1 < 10) {S : CallF} (hS : CallOk Tryz.prog (G a0 a1 x0 x1) S) : CallOk Tryz.prog (G a0 a1 x0 x1) (evalFnR Tryz.prog X S (drawD3 Tryz.prog X) 600) := by
  have hN : NamesOk (G a0 a1 x0 x1) N := names_ok a0 a1 x0 x1 h0 h1 
  have hX : ExtOk Tryz.prog (G a0 a1 x0 x1) X := symX_ok hN (extSym_ok hN)
  exact evalFnR_ok hX trivial hS (drawD3_ok hX trivial) 600
end Go.Proofs.YtpficieiefgbfaaGreatDoor.topfiles.d21
namespace Go.Proofs.YtpficieiefgbfaaGreatDoor.topfiles.d22
open Go Vai
set_option linter.unusedVariables false
set_option linter.unusedSimpArgs false
noncomputable def N : Names := Names.ofL tab
noncomputable def X : Extn := symX Tryz.prog N (extSym Tryz.prog N)
noncomputable def S0 : CallF := (orS (toldS 8 [] (.bool true)) (orS (namedS 9 4096 250 (.chan (some 4098))) (orS (namedS 9 4097 250 (.chan (some 4099))) (orS (toldS 253 pargs3 pres3) (orS (toldS 11 pargs2 pres2) (orS (toldS 253 pargs1 pres1) (orS (toldS 11 pargs0 pres0) (sumS 169 N crcs))))))))
noncomputable def call0 : CallF := evalFnR Tryz.prog X S0 (drawD3 Tryz.prog X) 600
theorem S0_ok (a0 : Int) (a1 : Int) (x0 : Nat) (x1 : Nat) (h0 : 10 ≤ x0 ∧ x0 < 100) (h1 : 10 ≤ x1 ∧ x1 < 100) (w0 : -9223372036854775808 ≤ a0 ∧ a0 ≤ 9223372036854775807) (w1 : -9223372036854775808 ≤ a1 ∧ a1 ≤ 9223372036854775807) (e0 : (a0.tmod 250).natAbs = x0) (e1 : (a1.tmod 250).natAbs = x1) : CallOk Tryz.prog (G a0 a1 x0 x1) S0 := by
  have hN : NamesOk (G a0 a1 x0 x1) N := names_ok a0 a1 x0 x1 h0 h1 
  exact (orS_ok (toldS_ok (named_ok a0 a1 x0 x1) rfl rfl (toldTrue (top.plain_ok _) top.begun_true)) (orS_ok (namedS_ok (named_ok a0 a1 x0 x1) (by decide) (by decide) rfl fun W => (by
    have hh := top.small_calls a0 250 (by decide) (by decide) W w0
    rw [e0] at hh
    rw [gb0 a0 a1 x0 x1, gv_chan 4098, gb2 a0 a1 x0 x1]
    exact hh)) (orS_ok (namedS_ok (named_ok a0 a1 x0 x1) (by decide) (by decide) rfl fun W => (by
    have hh := top.small_calls a1 250 (by decide) (by decide) W w1
    rw [e1] at hh
    rw [gb1 a0 a1 x0 x1, gv_chan 4099, gb3 a0 a1 x0 x1]
    exact hh)) (orS_ok (toldS_ok (named_ok a0 a1 x0 x1) (by kernel_rfl) (by kernel_rfl) (pure3 a0 a1 x0 x1 h0 h1)) (orS_ok (toldS_ok (named_ok a0 a1 x0 x1) (by kernel_rfl) (by kernel_rfl) (pure2 a0 a1 x0 x1 h0 h1)) (orS_ok (toldS_ok (named_ok a0 a1 x0 x1) (by kernel_rfl) (by kernel_rfl) (pure1 a0 a1 x0 x1 h0 h1)) (orS_ok (toldS_ok (named_ok a0 a1 x0 x1) (by kernel_rfl) (by kernel_rfl) (pure0 a0 a1 x0 x1 h0 h1)) (sumS_ok hN top.sum_ok (crc_ok a0 a1 x0 x1)))))))))
theorem call_ok (a0 : Int) (a1 : Int) (x0 : Nat) (x1 : Nat) (h0 : 10 ≤ x0 ∧ x0 < 100) (h1 : 10 ≤ x1 ∧ x1 < 100) {S : CallF} (hS : CallOk Tryz.prog (G a0 a1 x0 x1) S) : CallOk Tryz.prog (G a0 a1 x0 x1) (evalFnR Tryz.prog X S (drawD3 Tryz.prog X) 600) := by
  have hN : NamesOk (G a0 a1 x0 x1) N := names_ok a0 a1 x0 x1 h0 h1 
  have hX : ExtOk Tryz.prog (G a0 a1 x0 x1) X := symX_ok hN (extSym_ok hN)
  exact evalFnR_ok hX trivial hS (drawD3_ok hX trivial) 600
end Go.Proofs.YtpficieiefgbfaaGreatDoor.topfiles.d22
namespace Go.Proofs.YtpficieiefgbfaaGreatDoor.topfiles.d23
open Go Vai
set_option linter.unusedVariables false
set_option linter.unusedSimpArgs false
noncomputable def N : Names := Names.ofL tab
noncomputable def X : Extn := symX Tryz.prog N (extSym Tryz.prog N)
noncomputable def S0 : CallF := (orS (toldS 8 [] (.bool true)) (orS (namedS 9 4096 250 (.chan (some 4098))) (orS (namedS 9 4097 250 (.chan (some 4099))) (orS (toldS 284 pargs3 pres3) (orS (toldS 11 pargs2 pres2) (orS (toldS 253 pargs1 pres1) (orS (toldS 11 pargs0 pres0) (sumS 169 N crcs))))))))
noncomputable def call0 : CallF := evalFnR Tryz.prog X S0 (drawD3 Tryz.prog X) 600
theorem S0_ok (a0 : Int) (a1 : Int) (x0 : Nat) (x1 : Nat) (h0 : 10 ≤ x0 ∧ x0 < 100) (h1 : 100 ≤ x1 ∧ x1 < 250) (w0 : -9223372036854775808 ≤ a0 ∧ a0 ≤ 9223372036854775807) (w1 : -9223372036854775808 ≤ a1 ∧ a1 ≤ 9223372036854775807) (e0 : (a0.tmod 250).natAbs = x0) (e1 : (a1.tmod 250).natAbs = x1) : CallOk Tryz.prog (G a0 a1 x0 x1) S0 := by
  have hN : NamesOk (G a0 a1 x0 x1) N := names_ok a0 a1 x0 x1 h0 h1 
  exact (orS_ok (toldS_ok (named_ok a0 a1 x0 x1) rfl rfl (toldTrue (top.plain_ok _) top.begun_true)) (orS_ok (namedS_ok (named_ok a0 a1 x0 x1) (by decide) (by decide) rfl fun W => (by
    have hh := top.small_calls a0 250 (by decide) (by decide) W w0
    rw [e0] at hh
    rw [gb0 a0 a1 x0 x1, gv_chan 4098, gb2 a0 a1 x0 x1]
    exact hh)) (orS_ok (namedS_ok (named_ok a0 a1 x0 x1) (by decide) (by decide) rfl fun W => (by
    have hh := top.small_calls a1 250 (by decide) (by decide) W w1
    rw [e1] at hh
    rw [gb1 a0 a1 x0 x1, gv_chan 4099, gb3 a0 a1 x0 x1]
    exact hh)) (orS_ok (toldS_ok (named_ok a0 a1 x0 x1) (by kernel_rfl) (by kernel_rfl) (pure3 a0 a1 x0 x1 h0 h1)) (orS_ok (toldS_ok (named_ok a0 a1 x0 x1) (by kernel_rfl) (by kernel_rfl) (pure2 a0 a1 x0 x1 h0 h1)) (orS_ok (toldS_ok (named_ok a0 a1 x0 x1) (by kernel_rfl) (by kernel_rfl) (pure1 a0 a1 x0 x1 h0 h1)) (orS_ok (toldS_ok (named_ok a0 a1 x0 x1) (by kernel_rfl) (by kernel_rfl) (pure0 a0 a1 x0 x1 h0 h1)) (sumS_ok hN top.sum_ok (crc_ok a0 a1 x0 x1)))))))))
theorem call_ok (a0 : Int) (a1 : Int) (x0 : Nat) (x1 : Nat) (h0 : 10 ≤ x0 ∧ x0 < 100) (h1 : 100 ≤ x1 ∧ x1 < 250) {S : CallF} (hS : CallOk Tryz.prog (G a0 a1 x0 x1) S) : CallOk Tryz.prog (G a0 a1 x0 x1) (evalFnR Tryz.prog X S (drawD3 Tryz.prog X) 600) := by
  have hN : NamesOk (G a0 a1 x0 x1) N := names_ok a0 a1 x0 x1 h0 h1 
  have hX : ExtOk Tryz.prog (G a0 a1 x0 x1) X := symX_ok hN (extSym_ok hN)
  exact evalFnR_ok hX trivial hS (drawD3_ok hX trivial) 600
end Go.Proofs.YtpficieiefgbfaaGreatDoor.topfiles.d23
namespace Go.Proofs.YtpficieiefgbfaaGreatDoor.topfiles.d31
open Go Vai
set_option linter.unusedVariables false
set_option linter.unusedSimpArgs false
noncomputable def N : Names := Names.ofL tab
noncomputable def X : Extn := symX Tryz.prog N (extSym Tryz.prog N)
noncomputable def S0 : CallF := (orS (toldS 8 [] (.bool true)) (orS (namedS 9 4096 250 (.chan (some 4098))) (orS (namedS 9 4097 250 (.chan (some 4099))) (orS (toldS 253 pargs3 pres3) (orS (toldS 11 pargs2 pres2) (orS (toldS 284 pargs1 pres1) (orS (toldS 11 pargs0 pres0) (sumS 169 N crcs))))))))
noncomputable def call0 : CallF := evalFnR Tryz.prog X S0 (drawD3 Tryz.prog X) 600
theorem S0_ok (a0 : Int) (a1 : Int) (x0 : Nat) (x1 : Nat) (h0 : 100 ≤ x0 ∧ x0 < 250) (h1 : 0 ≤ x1 ∧ x1 < 10) (w0 : -9223372036854775808 ≤ a0 ∧ a0 ≤ 9223372036854775807) (w1 : -9223372036854775808 ≤ a1 ∧ a1 ≤ 9223372036854775807) (e0 : (a0.tmod 250).natAbs = x0) (e1 : (a1.tmod 250).natAbs = x1) : CallOk Tryz.prog (G a0 a1 x0 x1) S0 := by
  have hN : NamesOk (G a0 a1 x0 x1) N := names_ok a0 a1 x0 x1 h0 h1 
  exact (orS_ok (toldS_ok (named_ok a0 a1 x0 x1) rfl rfl (toldTrue (top.plain_ok _) top.begun_true)) (orS_ok (namedS_ok (named_ok a0 a1 x0 x1) (by decide) (by decide) rfl fun W => (by
    have hh := top.small_calls a0 250 (by decide) (by decide) W w0
    rw [e0] at hh
    rw [gb0 a0 a1 x0 x1, gv_chan 4098, gb2 a0 a1 x0 x1]
    exact hh)) (orS_ok (namedS_ok (named_ok a0 a1 x0 x1) (by decide) (by decide) rfl fun W => (by
    have hh := top.small_calls a1 250 (by decide) (by decide) W w1
    rw [e1] at hh
    rw [gb1 a0 a1 x0 x1, gv_chan 4099, gb3 a0 a1 x0 x1]
    exact hh)) (orS_ok (toldS_ok (named_ok a0 a1 x0 x1) (by kernel_rfl) (by kernel_rfl) (pure3 a0 a1 x0 x1 h0 h1)) (orS_ok (toldS_ok (named_ok a0 a1 x0 x1) (by kernel_rfl) (by kernel_rfl) (pure2 a0 a1 x0 x1 h0 h1)) (orS_ok (toldS_ok (named_ok a0 a1 x0 x1) (by kernel_rfl) (by kernel_rfl) (pure1 a0 a1 x0 x1 h0 h1)) (orS_ok (toldS_ok (named_ok a0 a1 x0 x1) (by kernel_rfl) (by kernel_rfl) (pure0 a0 a1 x0 x1 h0 h1)) (sumS_ok hN top.sum_ok (crc_ok a0 a1 x0 x1)))))))))
theorem call_ok (a0 : Int) (a1 : Int) (x0 : Nat) (x1 : Nat) (h0 : 100 ≤ x0 ∧ x0 < 250) (h1 : 0 ≤ x1 ∧ x1 < 10) {S : CallF} (hS : CallOk Tryz.prog (G a0 a1 x0 x1) S) : CallOk Tryz.prog (G a0 a1 x0 x1) (evalFnR Tryz.prog X S (drawD3 Tryz.prog X) 600) := by
  have hN : NamesOk (G a0 a1 x0 x1) N := names_ok a0 a1 x0 x1 h0 h1 
  have hX : ExtOk Tryz.prog (G a0 a1 x0 x1) X := symX_ok hN (extSym_ok hN)
  exact evalFnR_ok hX trivial hS (drawD3_ok hX trivial) 600
end Go.Proofs.YtpficieiefgbfaaGreatDoor.topfiles.d31
namespace Go.Proofs.YtpficieiefgbfaaGreatDoor.topfiles.d32
open Go Vai
set_option linter.unusedVariables false
set_option linter.unusedSimpArgs false
noncomputable def N : Names := Names.ofL tab
noncomputable def X : Extn := symX Tryz.prog N (extSym Tryz.prog N)
noncomputable def S0 : CallF := (orS (toldS 8 [] (.bool true)) (orS (namedS 9 4096 250 (.chan (some 4098))) (orS (namedS 9 4097 250 (.chan (some 4099))) (orS (toldS 253 pargs3 pres3) (orS (toldS 11 pargs2 pres2) (orS (toldS 284 pargs1 pres1) (orS (toldS 11 pargs0 pres0) (sumS 169 N crcs))))))))
noncomputable def call0 : CallF := evalFnR Tryz.prog X S0 (drawD3 Tryz.prog X) 600
theorem S0_ok (a0 : Int) (a1 : Int) (x0 : Nat) (x1 : Nat) (h0 : 100 ≤ x0 ∧ x0 < 250) (h1 : 10 ≤ x1 ∧ x1 < 100) (w0 : -9223372036854775808 ≤ a0 ∧ a0 ≤ 9223372036854775807) (w1 : -9223372036854775808 ≤ a1 ∧ a1 ≤ 9223372036854775807) (e0 : (a0.tmod 250).natAbs = x0) (e1 : (a1.tmod 250).natAbs = x1) : CallOk Tryz.prog (G a0 a1 x0 x1) S0 := by
  have hN : NamesOk (G a0 a1 x0 x1) N := names_ok a0 a1 x0 x1 h0 h1 
  exact (orS_ok (toldS_ok (named_ok a0 a1 x0 x1) rfl rfl (toldTrue (top.plain_ok _) top.begun_true)) (orS_ok (namedS_ok (named_ok a0 a1 x0 x1) (by decide) (by decide) rfl fun W => (by
    have hh := top.small_calls a0 250 (by decide) (by decide) W w0
    rw [e0] at hh
    rw [gb0 a0 a1 x0 x1, gv_chan 4098, gb2 a0 a1 x0 x1]
    exact hh)) (orS_ok (namedS_ok (named_ok a0 a1 x0 x1) (by decide) (by decide) rfl fun W => (by
    have hh := top.small_calls a1 250 (by decide) (by decide) W w1
    rw [e1] at hh
    rw [gb1 a0 a1 x0 x1, gv_chan 4099, gb3 a0 a1 x0 x1]
    exact hh)) (orS_ok (toldS_ok (named_ok a0 a1 x0 x1) (by kernel_rfl) (by kernel_rfl) (pure3 a0 a1 x0 x1 h0 h1)) (orS_ok (toldS_ok (named_ok a0 a1 x0 x1) (by kernel_rfl) (by kernel_rfl) (pure2 a0 a1 x0 x1 h0 h1)) (orS_ok (toldS_ok (named_ok a0 a1 x0 x1) (by kernel_rfl) (by kernel_rfl) (pure1 a0 a1 x0 x1 h0 h1)) (orS_ok (toldS_ok (named_ok a0 a1 x0 x1) (by kernel_rfl) (by kernel_rfl) (pure0 a0 a1 x0 x1 h0 h1)) (sumS_ok hN top.sum_ok (crc_ok a0 a1 x0 x1)))))))))
theorem call_ok (a0 : Int) (a1 : Int) (x0 : Nat) (x1 : Nat) (h0 : 100 ≤ x0 ∧ x0 < 250) (h1 : 10 ≤ x1 ∧ x1 < 100) {S : CallF} (hS : CallOk Tryz.prog (G a0 a1 x0 x1) S) : CallOk Tryz.prog (G a0 a1 x0 x1) (evalFnR Tryz.prog X S (drawD3 Tryz.prog X) 600) := by
  have hN : NamesOk (G a0 a1 x0 x1) N := names_ok a0 a1 x0 x1 h0 h1 
  have hX : ExtOk Tryz.prog (G a0 a1 x0 x1) X := symX_ok hN (extSym_ok hN)
  exact evalFnR_ok hX trivial hS (drawD3_ok hX trivial) 600
end Go.Proofs.YtpficieiefgbfaaGreatDoor.topfiles.d32
namespace Go.Proofs.YtpficieiefgbfaaGreatDoor.topfiles.d33
open Go Vai
set_option linter.unusedVariables false
set_option linter.unusedSimpArgs false
noncomputable def N : Names := Names.ofL tab
noncomputable def X : Extn := symX Tryz.prog N (extSym Tryz.prog N)
noncomputable def S0 : CallF := (orS (toldS 8 [] (.bool true)) (orS (namedS 9 4096 250 (.chan (some 4098))) (orS (namedS 9 4097 250 (.chan (some 4099))) (orS (toldS 284 pargs3 pres3) (orS (toldS 11 pargs2 pres2) (orS (toldS 284 pargs1 pres1) (orS (toldS 11 pargs0 pres0) (sumS 169 N crcs))))))))
noncomputable def call0 : CallF := evalFnR Tryz.prog X S0 (drawD3 Tryz.prog X) 600
theorem S0_ok (a0 : Int) (a1 : Int) (x0 : Nat) (x1 : Nat) (h0 : 100 ≤ x0 ∧ x0 < 250) (h1 : 100 ≤ x1 ∧ x1 < 250) (w0 : -9223372036854775808 ≤ a0 ∧ a0 ≤ 9223372036854775807) (w1 : -9223372036854775808 ≤ a1 ∧ a1 ≤ 9223372036854775807) (e0 : (a0.tmod 250).natAbs = x0) (e1 : (a1.tmod 250).natAbs = x1) : CallOk Tryz.prog (G a0 a1 x0 x1) S0 := by
  have hN : NamesOk (G a0 a1 x0 x1) N := names_ok a0 a1 x0 x1 h0 h1 
  exact (orS_ok (toldS_ok (named_ok a0 a1 x0 x1) rfl rfl (toldTrue (top.plain_ok _) top.begun_true)) (orS_ok (namedS_ok (named_ok a0 a1 x0 x1) (by decide) (by decide) rfl fun W => (by
    have hh := top.small_calls a0 250 (by decide) (by decide) W w0
    rw [e0] at hh
    rw [gb0 a0 a1 x0 x1, gv_chan 4098, gb2 a0 a1 x0 x1]
    exact hh)) (orS_ok (namedS_ok (named_ok a0 a1 x0 x1) (by decide) (by decide) rfl fun W => (by
    have hh := top.small_calls a1 250 (by decide) (by decide) W w1
    rw [e1] at hh
    rw [gb1 a0 a1 x0 x1, gv_chan 4099, gb3 a0 a1 x0 x1]
    exact hh)) (orS_ok (toldS_ok (named_ok a0 a1 x0 x1) (by kernel_rfl) (by kernel_rfl) (pure3 a0 a1 x0 x1 h0 h1)) (orS_ok (toldS_ok (named_ok a0 a1 x0 x1) (by kernel_rfl) (by kernel_rfl) (pure2 a0 a1 x0 x1 h0 h1)) (orS_ok (toldS_ok (named_ok a0 a1 x0 x1) (by kernel_rfl) (by kernel_rfl) (pure1 a0 a1 x0 x1 h0 h1)) (orS_ok (toldS_ok (named_ok a0 a1 x0 x1) (by kernel_rfl) (by kernel_rfl) (pure0 a0 a1 x0 x1 h0 h1)) (sumS_ok hN top.sum_ok (crc_ok a0 a1 x0 x1)))))))))
theorem call_ok (a0 : Int) (a1 : Int) (x0 : Nat) (x1 : Nat) (h0 : 100 ≤ x0 ∧ x0 < 250) (h1 : 100 ≤ x1 ∧ x1 < 250) {S : CallF} (hS : CallOk Tryz.prog (G a0 a1 x0 x1) S) : CallOk Tryz.prog (G a0 a1 x0 x1) (evalFnR Tryz.prog X S (drawD3 Tryz.prog X) 600) := by
  have hN : NamesOk (G a0 a1 x0 x1) N := names_ok a0 a1 x0 x1 h0 h1 
  have hX : ExtOk Tryz.prog (G a0 a1 x0 x1) X := symX_ok hN (extSym_ok hN)
  exact evalFnR_ok hX trivial hS (drawD3_ok hX trivial) 600
end Go.Proofs.YtpficieiefgbfaaGreatDoor.topfiles.d33
