/- The law TopMerge: the calls of the evaluator over its code, and states of the memory. -/
import Derived.Test.YtpficieiefgbfaaGreatDoorTB
import Derived.Test.YtpficieiefgbfaaGreatDoorTG
import Derived.Test.YtpficieiefgbfaaGreatDoorSM
import Derived.Test.YtpficieiefgbfaaGreatDoorTopMergeT0
import Derived.Test.YtpficieiefgbfaaGreatDoorTopMergeT1
import Derived.Test.YtpficieiefgbfaaGreatDoorTopMergeT2
import Derived.Test.YtpficieiefgbfaaGreatDoorTopMergeT3
import Derived.Test.YtpficieiefgbfaaGreatDoorTopMergeP0
import Derived.Test.YtpficieiefgbfaaGreatDoorTopMergeP1
import Derived.Test.YtpficieiefgbfaaGreatDoorTopMergeP2
import Derived.Test.YtpficieiefgbfaaGreatDoorTopMergeP3
import Derived.Test.YtpficieiefgbfaaGreatDoorTopMergeP4
import Derived.Test.YtpficieiefgbfaaGreatDoorTopMergeP5
import Derived.Test.YtpficieiefgbfaaGreatDoorTopMergeP6
import Derived.KernelRfl
namespace Go.Proofs.YtpficieiefgbfaaGreatDoor.topmerge.e1
open Go Vai
set_option linter.unusedVariables false
set_option linter.unusedSimpArgs false
noncomputable def N : Names := Names.ofL tab
noncomputable def X : Extn := symX Tryz.prog N (extSym Tryz.prog N)
noncomputable def S0 : CallF := (orS (toldS 8 [] (.bool true)) (orS (namedS 9 4096 200 (cn 4098)) (orS (namedS 9 4097 200 (cn 4098)) (orS (toldS 253 pargs1 pres1) (orS (toldS 11 pargs0 pres0) (sumS 169 N crcs))))))
noncomputable def call0 : CallF := evalFnR Tryz.prog X S0 (drawD3 Tryz.prog X) 600
theorem S0_ok (a0 : Int) (a1 : Int) (x0 : Nat) (h0 : 0 ≤ x0 ∧ x0 < 10) (w0 : -9223372036854775808 ≤ a0 ∧ a0 ≤ 9223372036854775807) (w1 : -9223372036854775808 ≤ a1 ∧ a1 ≤ 9223372036854775807) (e0 : (a0.tmod 200).natAbs = x0) (e1 : (a1.tmod 200).natAbs = x0) : CallOk Tryz.prog (G a0 a1 x0) S0 := by
  have hN : NamesOk (G a0 a1 x0) N := names_ok a0 a1 x0 h0  w0 w1 
  exact (orS_ok (toldS_ok (named_ok a0 a1 x0) rfl rfl (toldTrue (top.plain_ok _) top.begun_true)) (orS_ok (namedS_ok (named_ok a0 a1 x0) (by decide) (by decide) rfl fun W => (by
    have hh := top.small_calls a0 200 (by decide) (by decide) W w0
    rw [e0] at hh
    rw [gb0 a0 a1 x0, gv_chan 4098, gb2 a0 a1 x0]
    exact hh)) (orS_ok (namedS_ok (named_ok a0 a1 x0) (by decide) (by decide) rfl fun W => (by
    have hh := top.small_calls a1 200 (by decide) (by decide) W w1
    rw [e1] at hh
    rw [gb1 a0 a1 x0, gv_chan 4098, gb2 a0 a1 x0]
    exact hh)) (orS_ok (toldS_ok (named_ok a0 a1 x0) (by kernel_rfl) (by kernel_rfl) (pure1 a0 a1 x0 h0)) (orS_ok (toldS_ok (named_ok a0 a1 x0) (by kernel_rfl) (by kernel_rfl) (pure0 a0 a1 x0 h0)) (sumS_ok hN top.sum_ok (crc_ok a0 a1 x0)))))))
theorem call_ok (a0 : Int) (a1 : Int) (x0 : Nat) (h0 : 0 ≤ x0 ∧ x0 < 10) (w0 : -9223372036854775808 ≤ a0 ∧ a0 ≤ 9223372036854775807) (w1 : -9223372036854775808 ≤ a1 ∧ a1 ≤ 9223372036854775807) {S : CallF} (hS : CallOk Tryz.prog (G a0 a1 x0) S) : CallOk Tryz.prog (G a0 a1 x0) (evalFnR Tryz.prog X S (drawD3 Tryz.prog X) 600) := by
  have hN : NamesOk (G a0 a1 x0) N := names_ok a0 a1 x0 h0  w0 w1 
  have hX : ExtOk Tryz.prog (G a0 a1 x0) X := symX_ok hN (extSym_ok hN)
  exact evalFnR_ok hX trivial hS (drawD3_ok hX trivial) 600
end Go.Proofs.YtpficieiefgbfaaGreatDoor.topmerge.e1
namespace Go.Proofs.YtpficieiefgbfaaGreatDoor.topmerge.e2
open Go Vai
set_option linter.unusedVariables false
set_option linter.unusedSimpArgs false
noncomputable def N : Names := Names.ofL tab
noncomputable def X : Extn := symX Tryz.prog N (extSym Tryz.prog N)
noncomputable def S0 : CallF := (orS (toldS 8 [] (.bool true)) (orS (namedS 9 4096 200 (cn 4098)) (orS (namedS 9 4097 200 (cn 4098)) (orS (toldS 253 pargs1 pres1) (orS (toldS 11 pargs0 pres0) (sumS 169 N crcs))))))
noncomputable def call0 : CallF := evalFnR Tryz.prog X S0 (drawD3 Tryz.prog X) 600
theorem S0_ok (a0 : Int) (a1 : Int) (x0 : Nat) (h0 : 10 ≤ x0 ∧ x0 < 100) (w0 : -9223372036854775808 ≤ a0 ∧ a0 ≤ 9223372036854775807) (w1 : -9223372036854775808 ≤ a1 ∧ a1 ≤ 9223372036854775807) (e0 : (a0.tmod 200).natAbs = x0) (e1 : (a1.tmod 200).natAbs = x0) : CallOk Tryz.prog (G a0 a1 x0) S0 := by
  have hN : NamesOk (G a0 a1 x0) N := names_ok a0 a1 x0 h0  w0 w1 
  exact (orS_ok (toldS_ok (named_ok a0 a1 x0) rfl rfl (toldTrue (top.plain_ok _) top.begun_true)) (orS_ok (namedS_ok (named_ok a0 a1 x0) (by decide) (by decide) rfl fun W => (by
    have hh := top.small_calls a0 200 (by decide) (by decide) W w0
    rw [e0] at hh
    rw [gb0 a0 a1 x0, gv_chan 4098, gb2 a0 a1 x0]
    exact hh)) (orS_ok (namedS_ok (named_ok a0 a1 x0) (by decide) (by decide) rfl fun W => (by
    have hh := top.small_calls a1 200 (by decide) (by decide) W w1
    rw [e1] at hh
    rw [gb1 a0 a1 x0, gv_chan 4098, gb2 a0 a1 x0]
    exact hh)) (orS_ok (toldS_ok (named_ok a0 a1 x0) (by kernel_rfl) (by kernel_rfl) (pure1 a0 a1 x0 h0)) (orS_ok (toldS_ok (named_ok a0 a1 x0) (by kernel_rfl) (by kernel_rfl) (pure0 a0 a1 x0 h0)) (sumS_ok hN top.sum_ok (crc_ok a0 a1 x0)))))))
theorem call_ok (a0 : Int) (a1 : Int) (x0 : Nat) (h0 : 10 ≤ x0 ∧ x0 < 100) (w0 : -9223372036854775808 ≤ a0 ∧ a0 ≤ 9223372036854775807) (w1 : -9223372036854775808 ≤ a1 ∧ a1 ≤ 9223372036854775807) {S : CallF} (hS : CallOk Tryz.prog (G a0 a1 x0) S) : CallOk Tryz.prog (G a0 a1 x0) (evalFnR Tryz.prog X S (drawD3 Tryz.prog X) 600) := by
  have hN : NamesOk (G a0 a1 x0) N := names_ok a0 a1 x0 h0  w0 w1 
  have hX : ExtOk Tryz.prog (G a0 a1 x0) X := symX_ok hN (extSym_ok hN)
  exact evalFnR_ok hX trivial hS (drawD3_ok hX trivial) 600
end Go.Proofs.YtpficieiefgbfaaGreatDoor.topmerge.e2
namespace Go.Proofs.YtpficieiefgbfaaGreatDoor.topmerge.e3
open Go Vai
set_option linter.unusedVariables false
set_option linter.unusedSimpArgs false
noncomputable def N : Names := Names.ofL tab
noncomputable def X : Extn := symX Tryz.prog N (extSym Tryz.prog N)
noncomputable def S0 : CallF := (orS (toldS 8 [] (.bool true)) (orS (namedS 9 4096 200 (cn 4098)) (orS (namedS 9 4097 200 (cn 4098)) (orS (toldS 284 pargs1 pres1) (orS (toldS 11 pargs0 pres0) (sumS 169 N crcs))))))
noncomputable def call0 : CallF := evalFnR Tryz.prog X S0 (drawD3 Tryz.prog X) 600
theorem S0_ok (a0 : Int) (a1 : Int) (x0 : Nat) (h0 : 100 ≤ x0 ∧ x0 < 200) (w0 : -9223372036854775808 ≤ a0 ∧ a0 ≤ 9223372036854775807) (w1 : -9223372036854775808 ≤ a1 ∧ a1 ≤ 9223372036854775807) (e0 : (a0.tmod 200).natAbs = x0) (e1 : (a1.tmod 200).natAbs = x0) : CallOk Tryz.prog (G a0 a1 x0) S0 := by
  have hN : NamesOk (G a0 a1 x0) N := names_ok a0 a1 x0 h0  w0 w1 
  exact (orS_ok (toldS_ok (named_ok a0 a1 x0) rfl rfl (toldTrue (top.plain_ok _) top.begun_true)) (orS_ok (namedS_ok (named_ok a0 a1 x0) (by decide) (by decide) rfl fun W => (by
    have hh := top.small_calls a0 200 (by decide) (by decide) W w0
    rw [e0] at hh
    rw [gb0 a0 a1 x0, gv_chan 4098, gb2 a0 a1 x0]
    exact hh)) (orS_ok (namedS_ok (named_ok a0 a1 x0) (by decide) (by decide) rfl fun W => (by
    have hh := top.small_calls a1 200 (by decide) (by decide) W w1
    rw [e1] at hh
    rw [gb1 a0 a1 x0, gv_chan 4098, gb2 a0 a1 x0]
    exact hh)) (orS_ok (toldS_ok (named_ok a0 a1 x0) (by kernel_rfl) (by kernel_rfl) (pure1 a0 a1 x0 h0)) (orS_ok (toldS_ok (named_ok a0 a1 x0) (by kernel_rfl) (by kernel_rfl) (pure0 a0 a1 x0 h0)) (sumS_ok hN top.sum_ok (crc_ok a0 a1 x0)))))))
theorem call_ok (a0 : Int) (a1 : Int) (x0 : Nat) (h0 : 100 ≤ x0 ∧ x0 < 200) (w0 : -9223372036854775808 ≤ a0 ∧ a0 ≤ 9223372036854775807) (w1 : -9223372036854775808 ≤ a1 ∧ a1 ≤ 9223372036854775807) {S : CallF} (hS : CallOk Tryz.prog (G a0 a1 x0) S) : CallOk Tryz.prog (G a0 a1 x0) (evalFnR Tryz.prog X S (drawD3 Tryz.prog X) 600) := by
  have hN : NamesOk (G a0 a1 x0) N := names_ok a0 a1 x0 h0  w0 w1 
  have hX : ExtOk Tryz.prog (G a0 a1 x0) X := symX_ok hN (extSym_ok hN)
  exact evalFnR_ok hX trivial hS (drawD3_ok hX trivial) 600
end Go.Proofs.YtpficieiefgbfaaGreatDoor.topmerge.e3
namespace Go.Proofs.YtpficieiefgbfaaGreatDoor.topmerge.d12
open Go Vai
set_option linter.unusedVariables false
set_option linter.unusedSimpArgs false
noncomputable def N : Names := Names.ofL tab
noncomputable def X : Extn := symX Tryz.prog N (extSym Tryz.prog N)
noncomputable def S0 : CallF := (orS (toldS 8 [] (.bool true)) (orS (namedS 9 4096 200 (cn 4098)) (orS (namedS 9 4097 200 (cn 4099)) (orS (toldS 253 pargs3 pres3) (orS (toldS 253 pargs2 pres2) (orS (toldS 11 pargs1 pres1) (orS (toldS 11 pargs0 pres0) (sumS 169 N crcs))))))))
noncomputable def call0 : CallF := evalFnR Tryz.prog X S0 (drawD3 Tryz.prog X) 600
theorem S0_ok (a0 : Int) (a1 : Int) (x0 : Nat) (x1 : Nat) (h0 : 0 ≤ x0 ∧ x0 < 10) (h1 : 10 ≤ x1 ∧ x1 < 100) (w0 : -9223372036854775808 ≤ a0 ∧ a0 ≤ 9223372036854775807) (w1 : -9223372036854775808 ≤ a1 ∧ a1 ≤ 9223372036854775807) (e0 : (a0.tmod 200).natAbs = x0) (e1 : (a1.tmod 200).natAbs = x1) : CallOk Tryz.prog (G a0 a1 x0 x1) S0 := by
  have hN : NamesOk (G a0 a1 x0 x1) N := names_ok a0 a1 x0 x1 h0 h1  w0 w1 
  exact (orS_ok (toldS_ok (named_ok a0 a1 x0 x1) rfl rfl (toldTrue (top.plain_ok _) top.begun_true)) (orS_ok (namedS_ok (named_ok a0 a1 x0 x1) (by decide) (by decide) rfl fun W => (by
    have hh := top.small_calls a0 200 (by decide) (by decide) W w0
    rw [e0] at hh
    rw [gb0 a0 a1 x0 x1, gv_chan 4098, gb2 a0 a1 x0 x1]
    exact hh)) (orS_ok (namedS_ok (named_ok a0 a1 x0 x1) (by decide) (by decide) rfl fun W => (by
    have hh := top.small_calls a1 200 (by decide) (by decide) W w1
    rw [e1] at hh
    rw [gb1 a0 a1 x0 x1, gv_chan 4099, gb3 a0 a1 x0 x1]
    exact hh)) (orS_ok (toldS_ok (named_ok a0 a1 x0 x1) (by kernel_rfl) (by kernel_rfl) (pure3 a0 a1 x0 x1 h0 h1)) (orS_ok (toldS_ok (named_ok a0 a1 x0 x1) (by kernel_rfl) (by kernel_rfl) (pure2 a0 a1 x0 x1 h0 h1)) (orS_ok (toldS_ok (named_ok a0 a1 x0 x1) (by kernel_rfl) (by kernel_rfl) (pure1 a0 a1 x0 x1 h0 h1)) (orS_ok (toldS_ok (named_ok a0 a1 x0 x1) (by kernel_rfl) (by kernel_rfl) (pure0 a0 a1 x0 x1 h0 h1)) (sumS_ok hN top.sum_ok (crc_ok a0 a1 x0 x1)))))))))
theorem call_ok (a0 : Int) (a1 : Int) (x0 : Nat) (x1 : Nat) (h0 : 0 ≤ x0 ∧ x0 < 10) (h1 : 10 ≤ x1 ∧ x1 < 100) (w0 : -9223372036854775808 ≤ a0 ∧ a0 ≤ 9223372036854775807) (w1 : -9223372036854775808 ≤ a1 ∧ a1 ≤ 9223372036854775807) {S : CallF} (hS : CallOk Tryz.prog (G a0 a1 x0 x1) S) : CallOk Tryz.prog (G a0 a1 x0 x1) (evalFnR Tryz.prog X S (drawD3 Tryz.prog X) 600) := by
  have hN : NamesOk (G a0 a1 x0 x1) N := names_ok a0 a1 x0 x1 h0 h1  w0 w1 
  have hX : ExtOk Tryz.prog (G a0 a1 x0 x1) X := symX_ok hN (extSym_ok hN)
  exact evalFnR_ok hX trivial hS (drawD3_ok hX trivial) 600
end Go.Proofs.YtpficieiefgbfaaGreatDoor.topmerge.d12
namespace Go.Proofs.YtpficieiefgbfaaGreatDoor.topmerge.d13
open Go Vai
set_option linter.unusedVariables false
set_option linter.unusedSimpArgs false
noncomputable def N : Names := Names.ofL tab
noncomputable def X : Extn := symX Tryz.prog N (extSym Tryz.prog N)
noncomputable def S0 : CallF := (orS (toldS 8 [] (.bool true)) (orS (namedS 9 4096 200 (cn 4098)) (orS (namedS 9 4097 200 (cn 4099)) (orS (toldS 284 pargs3 pres3) (orS (toldS 253 pargs2 pres2) (orS (toldS 11 pargs1 pres1) (orS (toldS 11 pargs0 pres0) (sumS 169 N crcs))))))))
noncomputable def call0 : CallF := evalFnR Tryz.prog X S0 (drawD3 Tryz.prog X) 600
theorem S0_ok (a0 : Int) (a1 : Int) (x0 : Nat) (x1 : Nat) (h0 : 0 ≤ x0 ∧ x0 < 10) (h1 : 100 ≤ x1 ∧ x1 < 200) (w0 : -9223372036854775808 ≤ a0 ∧ a0 ≤ 9223372036854775807) (w1 : -9223372036854775808 ≤ a1 ∧ a1 ≤ 9223372036854775807) (e0 : (a0.tmod 200).natAbs = x0) (e1 : (a1.tmod 200).natAbs = x1) : CallOk Tryz.prog (G a0 a1 x0 x1) S0 := by
  have hN : NamesOk (G a0 a1 x0 x1) N := names_ok a0 a1 x0 x1 h0 h1  w0 w1 
  exact (orS_ok (toldS_ok (named_ok a0 a1 x0 x1) rfl rfl (toldTrue (top.plain_ok _) top.begun_true)) (orS_ok (namedS_ok (named_ok a0 a1 x0 x1) (by decide) (by decide) rfl fun W => (by
    have hh := top.small_calls a0 200 (by decide) (by decide) W w0
    rw [e0] at hh
    rw [gb0 a0 a1 x0 x1, gv_chan 4098, gb2 a0 a1 x0 x1]
    exact hh)) (orS_ok (namedS_ok (named_ok a0 a1 x0 x1) (by decide) (by decide) rfl fun W => (by
    have hh := top.small_calls a1 200 (by decide) (by decide) W w1
    rw [e1] at hh
    rw [gb1 a0 a1 x0 x1, gv_chan 4099, gb3 a0 a1 x0 x1]
    exact hh)) (orS_ok (toldS_ok (named_ok a0 a1 x0 x1) (by kernel_rfl) (by kernel_rfl) (pure3 a0 a1 x0 x1 h0 h1)) (orS_ok (toldS_ok (named_ok a0 a1 x0 x1) (by kernel_rfl) (by kernel_rfl) (pure2 a0 a1 x0 x1 h0 h1)) (orS_ok (toldS_ok (named_ok a0 a1 x0 x1) (by kernel_rfl) (by kernel_rfl) (pure1 a0 a1 x0 x1 h0 h1)) (orS_ok (toldS_ok (named_ok a0 a1 x0 x1) (by kernel_rfl) (by kernel_rfl) (pure0 a0 a1 x0 x1 h0 h1)) (sumS_ok hN top.sum_ok (crc_ok a0 a1 x0 x1)))))))))
theorem call_ok (a0 : Int) (a1 : Int) (x0 : Nat) (x1 : Nat) (h0 : 0 ≤ x0 ∧ x0 < 10) (h1 : 100 ≤ x1 ∧ x1 < 200) (w0 : -9223372036854775808 ≤ a0 ∧ a0 ≤ 9223372036854775807) (w1 : -9223372036854775808 ≤ a1 ∧ a1 ≤ 9223372036854775807) {S : CallF} (hS : CallOk Tryz.prog (G a0 a1 x0 x1) S) : CallOk Tryz.prog (G a0 a1 x0 x1) (evalFnR Tryz.prog X S (drawD3 Tryz.prog X) 600) := by
  have hN : NamesOk (G a0 a1 x0 x1) N := names_ok a0 a1 x0 x1 h0 h1  w0 w1 
  have hX : ExtOk Tryz.prog (G a0 a1 x0 x1) X := symX_ok hN (extSym_ok hN)
  exact evalFnR_ok hX trivial hS (drawD3_ok hX trivial) 600
end Go.Proofs.YtpficieiefgbfaaGreatDoor.topmerge.d13
namespace Go.Proofs.YtpficieiefgbfaaGreatDoor.topmerge.d21
open Go Vai
set_option linter.unusedVariables false
set_option linter.unusedSimpArgs false
noncomputable def N : Names := Names.ofL tab
noncomputable def X : Extn := symX Tryz.prog N (extSym Tryz.prog N)
noncomputable def S0 : CallF := (orS (toldS 8 [] (.bool true)) (orS (namedS 9 4096 200 (cn 4098)) (orS (namedS 9 4097 200 (cn 4099)) (orS (toldS 253 pargs3 pres3) (orS (toldS 253 pargs2 pres2) (orS (toldS 11 pargs1 pres1) (orS (toldS 11 pargs0 pres0) (sumS 169 N crcs))))))))
noncomputable def call0 : CallF := evalFnR Tryz.prog X S0 (drawD3 Tryz.prog X) 600
theorem S0_ok (a0 : Int) (a1 : Int) (x0 : Nat) (x1 : Nat) (h0 : 10 ≤ x0 ∧ x0 < 100) (h1 : 0 ≤ x1 ∧ x1 < 10) (w0 : -9223372036854775808 ≤ a0 ∧ a0 ≤ 9223372036854775807) (w1 : -9223372036854775808 ≤ a1 ∧ a1 ≤ 9223372036854775807) (e0 : (a0.tmod 200).natAbs = x0) (e1 : (a1.tmod 200).natAbs = x1) : CallOk Tryz.prog (G a0 a1 x0 x1) S0 := by
  have hN : NamesOk (G a0 a1 x0 x1) N := names_ok a0 a1 x0 x1 h0 h1  w0 w1 
  exact (orS_ok (toldS_ok (named_ok a0 a1 x0 x1) rfl rfl (toldTrue (top.plain_ok _) top.begun_true)) (orS_ok (namedS_ok (named_ok a0 a1 x0 x1) (by decide) (by decide) rfl fun W => (by
    have hh := top.small_calls a0 200 (by decide) (by decide) W w0
    rw [e0] at hh
    rw [gb0 a0 a1 x0 x1, gv_chan 4098, gb2 a0 a1 x0 x1]
    exact hh)) (orS_ok (namedS_ok (named_ok a0 a1 x0 x1) (by decide) (by decide) rfl fun W => (by
    have hh := top.small_calls a1 200 (by decide) (by decide) W w1
    rw [e1] at hh
    rw [gb1 a0 a1 x0 x1, gv_chan 4099, gb3 a0 a1 x0 x1]
    exact hh)) (orS_ok (toldS_ok (named_ok a0 a1 x0 x1) (by kernel_rfl) (by kernel_rfl) (pure3 a0 a1 x0 x1 h0 h1)) (orS_ok (toldS_ok (named_ok a0 a1 x0 x1) (by kernel_rfl) (by kernel_rfl) (pure2 a0 a1 x0 x1 h0 h1)) (orS_ok (toldS_ok (named_ok a0 a1 x0 x1) (by kernel_rfl) (by kernel_rfl) (pure1 a0 a1 x0 x1 h0 h1)) (orS_ok (toldS_ok (named_ok a0 a1 x0 x1) (by kernel_rfl) (by kernel_rfl) (pure0 a0 a1 x0 x1 h0 h1)) (sumS_ok hN top.sum_ok (crc_ok a0 a1 x0 x1)))))))))
theorem call_ok (a0 : Int) (a1 : Int) (x0 : Nat) (x1 : Nat) (h0 : 10 ≤ x0 ∧ x0 < 100) (h1 : 0 ≤ x1 ∧ x1 < 10) (w0 : -9223372036854775808 ≤ a0 ∧ a0 ≤ 9223372036854775807) (w1 : -9223372036854775808 ≤ a1 ∧ a1 ≤ 9223372036854775807) {S : CallF} (hS : CallOk Tryz.prog (G a0 a1 x0 x1) S) : CallOk Tryz.prog (G a0 a1 x0 x1) (evalFnR Tryz.prog X S (drawD3 Tryz.prog X) 600) := by
  have hN : NamesOk (G a0 a1 x0 x1) N := names_ok a0 a1 x0 x1 h0 h1  w0 w1 
  have hX : ExtOk Tryz.prog (G a0 a1 x0 x1) X := symX_ok hN (extSym_ok hN)
  exact evalFnR_ok hX trivial hS (drawD3_ok hX trivial) 600
end Go.Proofs.YtpficieiefgbfaaGreatDoor.topmerge.d21
namespace Go.Proofs.YtpficieiefgbfaaGreatDoor.topmerge.d23
open Go Vai
set_option linter.unusedVariables false
set_option linter.unusedSimpArgs false
noncomputable def N : Names := Names.ofL tab
noncomputable def X : Extn := symX Tryz.prog N (extSym Tryz.prog N)
noncomputable def S0 : CallF := (orS (toldS 8 [] (.bool true)) (orS (namedS 9 4096 200 (cn 4098)) (orS (namedS 9 4097 200 (cn 4099)) (orS (toldS 284 pargs3 pres3) (orS (toldS 253 pargs2 pres2) (orS (toldS 11 pargs1 pres1) (orS (toldS 11 pargs0 pres0) (sumS 169 N crcs))))))))
noncomputable def call0 : CallF := evalFnR Tryz.prog X S0 (drawD3 Tryz.prog X) 600
theorem S0_ok (a0 : Int) (a1 : Int) (x0 : Nat) (x1 : Nat) (h0 : 10 ≤ x0 ∧ x0 < 100) (h1 : 100 ≤ x1 ∧ x1 < 200) (w0 : -9223372036854775808 ≤ a0 ∧ a0 ≤ 9223372036854775807) (w1 : -9223372036854775808 ≤ a1 ∧ a1 ≤ 9223372036854775807) (e0 : (a0.tmod 200).natAbs = x0) (e1 : (a1.tmod 200).natAbs = x1) : CallOk Tryz.prog (G a0 a1 x0 x1) S0 := by
  have hN : NamesOk (G a0 a1 x0 x1) N := names_ok a0 a1 x0 x1 h0 h1  w0 w1 
  exact (orS_ok (toldS_ok (named_ok a0 a1 x0 x1) rfl rfl (toldTrue (top.plain_ok _) top.begun_true)) (orS_ok (namedS_ok (named_ok a0 a1 x0 x1) (by decide) (by decide) rfl fun W => (by
    have hh := top.small_calls a0 200 (by decide) (by decide) W w0
    rw [e0] at hh
    rw [gb0 a0 a1 x0 x1, gv_chan 4098, gb2 a0 a1 x0 x1]
    exact hh)) (orS_ok (namedS_ok (named_ok a0 a1 x0 x1) (by decide) (by decide) rfl fun W => (by
    have hh := top.small_calls a1 200 (by decide) (by decide) W w1
    rw [e1] at hh
    rw [gb1 a0 a1 x0 x1, gv_chan 4099, gb3 a0 a1 x0 x1]
    exact hh)) (orS_ok (toldS_ok (named_ok a0 a1 x0 x1) (by kernel_rfl) (by kernel_rfl) (pure3 a0 a1 x0 x1 h0 h1)) (orS_ok (toldS_ok (named_ok a0 a1 x0 x1) (by kernel_rfl) (by kernel_rfl) (pure2 a0 a1 x0 x1 h0 h1)) (orS_ok (toldS_ok (named_ok a0 a1 x0 x1) (by kernel_rfl) (by kernel_rfl) (pure1 a0 a1 x0 x1 h0 h1)) (orS_ok (toldS_ok (named_ok a0 a1 x0 x1) (by kernel_rfl) (by kernel_rfl) (pure0 a0 a1 x0 x1 h0 h1)) (sumS_ok hN top.sum_ok (crc_ok a0 a1 x0 x1)))))))))
theorem call_ok (a0 : Int) (a1 : Int) (x0 : Nat) (x1 : Nat) (h0 : 10 ≤ x0 ∧ x0 < 100) (h1 : 100 ≤ x1 ∧ x1 < 200) (w0 : -9223372036854775808 ≤ a0 ∧ a0 ≤ 9223372036854775807) (w1 : -9223372036854775808 ≤ a1 ∧ a1 ≤ 9223372036854775807) {S : CallF} (hS : CallOk Tryz.prog (G a0 a1 x0 x1) S) : CallOk Tryz.prog (G a0 a1 x0 x1) (evalFnR Tryz.prog X S (drawD3 Tryz.prog X) 600) := by
  have hN : NamesOk (G a0 a1 x0 x1) N := names_ok a0 a1 x0 x1 h0 h1  w0 w1 
  have hX : ExtOk Tryz.prog (G a0 a1 x0 x1) X := symX_ok hN (extSym_ok hN)
  exact evalFnR_ok hX trivial hS (drawD3_ok hX trivial) 600
end Go.Proofs.YtpficieiefgbfaaGreatDoor.topmerge.d23
namespace Go.Proofs.YtpficieiefgbfaaGreatDoor.topmerge.d31
open Go Vai
set_option linter.unusedVariables false
set_option linter.unusedSimpArgs false
noncomputable def N : Names := Names.ofL tab
noncomputable def X : Extn := symX Tryz.prog N (extSym Tryz.prog N)
noncomputable def S0 : CallF := (orS (toldS 8 [] (.bool true)) (orS (namedS 9 4096 200 (cn 4098)) (orS (namedS 9 4097 200 (cn 4099)) (orS (toldS 253 pargs3 pres3) (orS (toldS 284 pargs2 pres2) (orS (toldS 11 pargs1 pres1) (orS (toldS 11 pargs0 pres0) (sumS 169 N crcs))))))))
noncomputable def call0 : CallF := evalFnR Tryz.prog X S0 (drawD3 Tryz.prog X) 600
theorem S0_ok (a0 : Int) (a1 : Int) (x0 : Nat) (x1 : Nat) (h0 : 100 ≤ x0 ∧ x0 < 200) (h1 : 0 ≤ x1 ∧ x1 < 10) (w0 : -9223372036854775808 ≤ a0 ∧ a0 ≤ 9223372036854775807) (w1 : -9223372036854775808 ≤ a1 ∧ a1 ≤ 9223372036854775807) (e0 : (a0.tmod 200).natAbs = x0) (e1 : (a1.tmod 200).natAbs = x1) : CallOk Tryz.prog (G a0 a1 x0 x1) S0 := by
  have hN : NamesOk (G a0 a1 x0 x1) N := names_ok a0 a1 x0 x1 h0 h1  w0 w1 
  exact (orS_ok (toldS_ok (named_ok a0 a1 x0 x1) rfl rfl (toldTrue (top.plain_ok _) top.begun_true)) (orS_ok (namedS_ok (named_ok a0 a1 x0 x1) (by decide) (by decide) rfl fun W => (by
    have hh := top.small_calls a0 200 (by decide) (by decide) W w0
    rw [e0] at hh
    rw [gb0 a0 a1 x0 x1, gv_chan 4098, gb2 a0 a1 x0 x1]
    exact hh)) (orS_ok (namedS_ok (named_ok a0 a1 x0 x1) (by decide) (by decide) rfl fun W => (by
    have hh := top.small_calls a1 200 (by decide) (by decide) W w1
    rw [e1] at hh
    rw [gb1 a0 a1 x0 x1, gv_chan 4099, gb3 a0 a1 x0 x1]
    exact hh)) (orS_ok (toldS_ok (named_ok a0 a1 x0 x1) (by kernel_rfl) (by kernel_rfl) (pure3 a0 a1 x0 x1 h0 h1)) (orS_ok (toldS_ok (named_ok a0 a1 x0 x1) (by kernel_rfl) (by kernel_rfl) (pure2 a0 a1 x0 x1 h0 h1)) (orS_ok (toldS_ok (named_ok a0 a1 x0 x1) (by kernel_rfl) (by kernel_rfl) (pure1 a0 a1 x0 x1 h0 h1)) (orS_ok (toldS_ok (named_ok a0 a1 x0 x1) (by kernel_rfl) (by kernel_rfl) (pure0 a0 a1 x0 x1 h0 h1)) (sumS_ok hN top.sum_ok (crc_ok a0 a1 x0 x1)))))))))
theorem call_ok (a0 : Int) (a1 : Int) (x0 : Nat) (x1 : Nat) (h0 : 100 ≤ x0 ∧ x0 < 200) (h1 : 0 ≤ x1 ∧ x1 < 10) (w0 : -9223372036854775808 ≤ a0 ∧ a0 ≤ 9223372036854775807) (w1 : -9223372036854775808 ≤ a1 ∧ a1 ≤ 9223372036854775807) {S : CallF} (hS : CallOk Tryz.prog (G a0 a1 x0 x1) S) : CallOk Tryz.prog (G a0 a1 x0 x1) (evalFnR Tryz.prog X S (drawD3 Tryz.prog X) 600) := by
  have hN : NamesOk (G a0 a1 x0 x1) N := names_ok a0 a1 x0 x1 h0 h1  w0 w1 
  have hX : ExtOk Tryz.prog (G a0 a1 x0 x1) X := symX_ok hN (extSym_ok hN)
  exact evalFnR_ok hX trivial hS (drawD3_ok hX trivial) 600
end Go.Proofs.YtpficieiefgbfaaGreatDoor.topmerge.d31
namespace Go.Proofs.YtpficieiefgbfaaGreatDoor.topmerge.d32
open Go Vai
set_option linter.unusedVariables false
set_option linter.unusedSimpArgs false
noncomputable def N : Names := Names.ofL tab
noncomputable def X : Extn := symX Tryz.prog N (extSym Tryz.prog N)
noncomputable def S0 : CallF := (orS (toldS 8 [] (.bool true)) (orS (namedS 9 4096 200 (cn 4098)) (orS (namedS 9 4097 200 (cn 4099)) (orS (toldS 253 pargs3 pres3) (orS (toldS 284 pargs2 pres2) (orS (toldS 11 pargs1 pres1) (orS (toldS 11 pargs0 pres0) (sumS 169 N crcs))))))))
noncomputable def call0 : CallF := evalFnR Tryz.prog X S0 (drawD3 Tryz.prog X) 600
theorem S0_ok (a0 : Int) (a1 : Int) (x0 : Nat) (x1 : Nat) (h0 : 100 ≤ x0 ∧ x0 < 200) (h1 : 10 ≤ x1 ∧ x1 < 100) (w0 : -9223372036854775808 ≤ a0 ∧ a0 ≤ 9223372036854775807) (w1 : -9223372036854775808 ≤ a1 ∧ a1 ≤ 9223372036854775807) (e0 : (a0.tmod 200).natAbs = x0) (e1 : (a1.tmod 200).natAbs = x1) : CallOk Tryz.prog (G a0 a1 x0 x1) S0 := by
  have hN : NamesOk (G a0 a1 x0 x1) N := names_ok a0 a1 x0 x1 h0 h1  w0 w1 
  exact (orS_ok (toldS_ok (named_ok a0 a1 x0 x1) rfl rfl (toldTrue (top.plain_ok _) top.begun_true)) (orS_ok (namedS_ok (named_ok a0 a1 x0 x1) (by decide) (by decide) rfl fun W => (by
    have hh := top.small_calls a0 200 (by decide) (by decide) W w0
    rw [e0] at hh
    rw [gb0 a0 a1 x0 x1, gv_chan 4098, gb2 a0 a1 x0 x1]
    exact hh)) (orS_ok (namedS_ok (named_ok a0 a1 x0 x1) (by decide) (by decide) rfl fun W => (by
    have hh := top.small_calls a1 200 (by decide) (by decide) W w1
    rw [e1] at hh
    rw [gb1 a0 a1 x0 x1, gv_chan 4099, gb3 a0 a1 x0 x1]
    exact hh)) (orS_ok (toldS_ok (named_ok a0 a1 x0 x1) (by kernel_rfl) (by kernel_rfl) (pure3 a0 a1 x0 x1 h0 h1)) (orS_ok (toldS_ok (named_ok a0 a1 x0 x1) (by kernel_rfl) (by kernel_rfl) (pure2 a0 a1 x0 x1 h0 h1)) (orS_ok (toldS_ok (named_ok a0 a1 x0 x1) (by kernel_rfl) (by kernel_rfl) (pure1 a0 a1 x0 x1 h0 h1)) (orS_ok (toldS_ok (named_ok a0 a1 x0 x1) (by kernel_rfl) (by kernel_rfl) (pure0 a0 a1 x0 x1 h0 h1)) (sumS_ok hN top.sum_ok (crc_ok a0 a1 x0 x1)))))))))
theorem call_ok (a0 : Int) (a1 : Int) (x0 : Nat) (x1 : Nat) (h0 : 100 ≤ x0 ∧ x0 < 200) (h1 : 10 ≤ x1 ∧ x1 < 100) (w0 : -9223372036854775808 ≤ a0 ∧ a0 ≤ 9223372036854775807) (w1 : -9223372036854775808 ≤ a1 ∧ a1 ≤ 9223372036854775807) {S : CallF} (hS : CallOk Tryz.prog (G a0 a1 x0 x1) S) : CallOk Tryz.prog (G a0 a1 x0 x1) (evalFnR Tryz.prog X S (drawD3 Tryz.prog X) 600) := by
  have hN : NamesOk (G a0 a1 x0 x1) N := names_ok a0 a1 x0 x1 h0 h1  w0 w1 
  have hX : ExtOk Tryz.prog (G a0 a1 x0 x1) X := symX_ok hN (extSym_ok hN)
  exact evalFnR_ok hX trivial hS (drawD3_ok hX trivial) 600
end Go.Proofs.YtpficieiefgbfaaGreatDoor.topmerge.d32
namespace Go.Proofs.YtpficieiefgbfaaGreatDoor.topmerge.l1
open Go Vai
set_option linter.unusedVariables false
set_option linter.unusedSimpArgs false
noncomputable def N : Names := Names.ofL tab
noncomputable def X : Extn := symX Tryz.prog N (extSym Tryz.prog N)
noncomputable def S0 : CallF := (orS (toldS 8 [] (.bool true)) (orS (namedS 9 4096 200 (cn 4098)) (orS (namedS 9 4097 200 (cn 4099)) (orS (toldS 253 pargs3 pres3) (orS (toldS 253 pargs2 pres2) (orS (toldS 11 pargs1 pres1) (orS (toldS 11 pargs0 pres0) (sumS 169 N crcs))))))))
noncomputable def call0 : CallF := evalFnR Tryz.prog X S0 (drawD3 Tryz.prog X) 600
theorem S0_ok (a0 : Int) (a1 : Int) (x0 : Nat) (x1 : Nat) (h0 : 0 ≤ x0 ∧ x0 < 9) (h1 : 1 ≤ x1 ∧ x1 < 10) (r0 : x0 < x1) (w0 : -9223372036854775808 ≤ a0 ∧ a0 ≤ 9223372036854775807) (w1 : -9223372036854775808 ≤ a1 ∧ a1 ≤ 9223372036854775807) (e0 : (a0.tmod 200).natAbs = x0) (e1 : (a1.tmod 200).natAbs = x1) : CallOk Tryz.prog (G a0 a1 x0 x1) S0 := by
  have hN : NamesOk (G a0 a1 x0 x1) N := names_ok a0 a1 x0 x1 h0 h1 r0 w0 w1 
  exact (orS_ok (toldS_ok (named_ok a0 a1 x0 x1) rfl rfl (toldTrue (top.plain_ok _) top.begun_true)) (orS_ok (namedS_ok (named_ok a0 a1 x0 x1) (by decide) (by decide) rfl fun W => (by
    have hh := top.small_calls a0 200 (by decide) (by decide) W w0
    rw [e0] at hh
    rw [gb0 a0 a1 x0 x1, gv_chan 4098, gb2 a0 a1 x0 x1]
    exact hh)) (orS_ok (namedS_ok (named_ok a0 a1 x0 x1) (by decide) (by decide) rfl fun W => (by
    have hh := top.small_calls a1 200 (by decide) (by decide) W w1
    rw [e1] at hh
    rw [gb1 a0 a1 x0 x1, gv_chan 4099, gb3 a0 a1 x0 x1]
    exact hh)) (orS_ok (toldS_ok (named_ok a0 a1 x0 x1) (by kernel_rfl) (by kernel_rfl) (pure3 a0 a1 x0 x1 h0 h1)) (orS_ok (toldS_ok (named_ok a0 a1 x0 x1) (by kernel_rfl) (by kernel_rfl) (pure2 a0 a1 x0 x1 h0 h1)) (orS_ok (toldS_ok (named_ok a0 a1 x0 x1) (by kernel_rfl) (by kernel_rfl) (pure1 a0 a1 x0 x1 h0 h1)) (orS_ok (toldS_ok (named_ok a0 a1 x0 x1) (by kernel_rfl) (by kernel_rfl) (pure0 a0 a1 x0 x1 h0 h1)) (sumS_ok hN top.sum_ok (crc_ok a0 a1 x0 x1)))))))))
theorem call_ok (a0 : Int) (a1 : Int) (x0 : Nat) (x1 : Nat) (h0 : 0 ≤ x0 ∧ x0 < 9) (h1 : 1 ≤ x1 ∧ x1 < 10) (r0 : x0 < x1) (w0 : -9223372036854775808 ≤ a0 ∧ a0 ≤ 9223372036854775807) (w1 : -9223372036854775808 ≤ a1 ∧ a1 ≤ 9223372036854775807) {S : CallF} (hS : CallOk Tryz.prog (G a0 a1 x0 x1) S) : CallOk Tryz.prog (G a0 a1 x0 x1) (evalFnR Tryz.prog X S (drawD3 Tryz.prog X) 600) := by
  have hN : NamesOk (G a0 a1 x0 x1) N := names_ok a0 a1 x0 x1 h0 h1 r0 w0 w1 
  have hX : ExtOk Tryz.prog (G a0 a1 x0 x1) X := symX_ok hN (extSym_ok hN)
  exact evalFnR_ok hX trivial hS (drawD3_ok hX trivial) 600
end Go.Proofs.YtpficieiefgbfaaGreatDoor.topmerge.l1
namespace Go.Proofs.YtpficieiefgbfaaGreatDoor.topmerge.l2
open Go Vai
set_option linter.unusedVariables false
set_option linter.unusedSimpArgs false
noncomputable def N : Names := Names.ofL tab
noncomputable def X : Extn := symX Tryz.prog N (extSym Tryz.prog N)
noncomputable def S0 : CallF := (orS (toldS 8 [] (.bool true)) (orS (namedS 9 4096 200 (cn 4098)) (orS (namedS 9 4097 200 (cn 4099)) (orS (toldS 253 pargs3 pres3) (orS (toldS 253 pargs2 pres2) (orS (toldS 11 pargs1 pres1) (orS (toldS 11 pargs0 pres0) (sumS 169 N crcs))))))))
noncomputable def call0 : CallF := evalFnR Tryz.prog X S0 (drawD3 Tryz.prog X) 600
theorem S0_ok (a0 : Int) (a1 : Int) (x0 : Nat) (x1 : Nat) (h0 : 10 ≤ x0 ∧ x0 < 99) (h1 : 11 ≤ x1 ∧ x1 < 100) (r0 : x0 < x1) (w0 : -9223372036854775808 ≤ a0 ∧ a0 ≤ 9223372036854775807) (w1 : -9223372036854775808 ≤ a1 ∧ a1 ≤ 9223372036854775807) (e0 : (a0.tmod 200).natAbs = x0) (e1 : (a1.tmod 200).natAbs = x1) : CallOk Tryz.prog (G a0 a1 x0 x1) S0 := by
  have hN : NamesOk (G a0 a1 x0 x1) N := names_ok a0 a1 x0 x1 h0 h1 r0 w0 w1 
  exact (orS_ok (toldS_ok (named_ok a0 a1 x0 x1) rfl rfl (toldTrue (top.plain_ok _) top.begun_true)) (orS_ok (namedS_ok (named_ok a0 a1 x0 x1) (by decide) (by decide) rfl fun W => (by
    have hh := top.small_calls a0 200 (by decide) (by decide) W w0
    rw [e0] at hh
    rw [gb0 a0 a1 x0 x1, gv_chan 4098, gb2 a0 a1 x0 x1]
    exact hh)) (orS_ok (namedS_ok (named_ok a0 a1 x0 x1) (by decide) (by decide) rfl fun W => (by
    have hh := top.small_calls a1 200 (by decide) (by decide) W w1
    rw [e1] at hh
    rw [gb1 a0 a1 x0 x1, gv_chan 4099, gb3 a0 a1 x0 x1]
    exact hh)) (orS_ok (toldS_ok (named_ok a0 a1 x0 x1) (by kernel_rfl) (by kernel_rfl) (pure3 a0 a1 x0 x1 h0 h1)) (orS_ok (toldS_ok (named_ok a0 a1 x0 x1) (by kernel_rfl) (by kernel_rfl) (pure2 a0 a1 x0 x1 h0 h1)) (orS_ok (toldS_ok (named_ok a0 a1 x0 x1) (by kernel_rfl) (by kernel_rfl) (pure1 a0 a1 x0 x1 h0 h1)) (orS_ok (toldS_ok (named_ok a0 a1 x0 x1) (by kernel_rfl) (by kernel_rfl) (pure0 a0 a1 x0 x1 h0 h1)) (sumS_ok hN top.sum_ok (crc_ok a0 a1 x0 x1)))))))))
theorem call_ok (a0 : Int) (a1 : Int) (x0 : Nat) (x1 : Nat) (h0 : 10 ≤ x0 ∧ x0 < 99) (h1 : 11 ≤ x1 ∧ x1 < 100) (r0 : x0 < x1) (w0 : -9223372036854775808 ≤ a0 ∧ a0 ≤ 9223372036854775807) (w1 : -9223372036854775808 ≤ a1 ∧ a1 ≤ 9223372036854775807) {S : CallF} (hS : CallOk Tryz.prog (G a0 a1 x0 x1) S) : CallOk Tryz.prog (G a0 a1 x0 x1) (evalFnR Tryz.prog X S (drawD3 Tryz.prog X) 600) := by
  have hN : NamesOk (G a0 a1 x0 x1) N := names_ok a0 a1 x0 x1 h0 h1 r0 w0 w1 
  have hX : ExtOk Tryz.prog (G a0 a1 x0 x1) X := symX_ok hN (extSym_ok hN)
  exact evalFnR_ok hX trivial hS (drawD3_ok hX trivial) 600
end Go.Proofs.YtpficieiefgbfaaGreatDoor.topmerge.l2
namespace Go.Proofs.YtpficieiefgbfaaGreatDoor.topmerge.l3
open Go Vai
set_option linter.unusedVariables false
set_option linter.unusedSimpArgs false
noncomputable def N : Names := Names.ofL tab
noncomputable def X : Extn := symX Tryz.prog N (extSym Tryz.prog N)
noncomputable def S0 : CallF := (orS (toldS 8 [] (.bool true)) (orS (namedS 9 4096 200 (cn 4098)) (orS (namedS 9 4097 200 (cn 4099)) (orS (toldS 284 pargs3 pres3) (orS (toldS 284 pargs2 pres2) (orS (toldS 11 pargs1 pres1) (orS (toldS 11 pargs0 pres0) (sumS 169 N crcs))))))))
noncomputable def call0 : CallF := evalFnR Tryz.prog X S0 (drawD3 Tryz.prog X) 600
theorem S0_ok (a0 : Int) (a1 : Int) (x0 : Nat) (x1 : Nat) (h0 : 100 ≤ x0 ∧ x0 < 199) (h1 : 101 ≤ x1 ∧ x1 < 200) (r0 : x0 < x1) (w0 : -9223372036854775808 ≤ a0 ∧ a0 ≤ 9223372036854775807) (w1 : -9223372036854775808 ≤ a1 ∧ a1 ≤ 9223372036854775807) (e0 : (a0.tmod 200).natAbs = x0) (e1 : (a1.tmod 200).natAbs = x1) : CallOk Tryz.prog (G a0 a1 x0 x1) S0 := by
  have hN : NamesOk (G a0 a1 x0 x1) N := names_ok a0 a1 x0 x1 h0 h1 r0 w0 w1 
  exact (orS_ok (toldS_ok (named_ok a0 a1 x0 x1) rfl rfl (toldTrue (top.plain_ok _) top.begun_true)) (orS_ok (namedS_ok (named_ok a0 a1 x0 x1) (by decide) (by decide) rfl fun W => (by
    have hh := top.small_calls a0 200 (by decide) (by decide) W w0
    rw [e0] at hh
    rw [gb0 a0 a1 x0 x1, gv_chan 4098, gb2 a0 a1 x0 x1]
    exact hh)) (orS_ok (namedS_ok (named_ok a0 a1 x0 x1) (by decide) (by decide) rfl fun W => (by
    have hh := top.small_calls a1 200 (by decide) (by decide) W w1
    rw [e1] at hh
    rw [gb1 a0 a1 x0 x1, gv_chan 4099, gb3 a0 a1 x0 x1]
    exact hh)) (orS_ok (toldS_ok (named_ok a0 a1 x0 x1) (by kernel_rfl) (by kernel_rfl) (pure3 a0 a1 x0 x1 h0 h1)) (orS_ok (toldS_ok (named_ok a0 a1 x0 x1) (by kernel_rfl) (by kernel_rfl) (pure2 a0 a1 x0 x1 h0 h1)) (orS_ok (toldS_ok (named_ok a0 a1 x0 x1) (by kernel_rfl) (by kernel_rfl) (pure1 a0 a1 x0 x1 h0 h1)) (orS_ok (toldS_ok (named_ok a0 a1 x0 x1) (by kernel_rfl) (by kernel_rfl) (pure0 a0 a1 x0 x1 h0 h1)) (sumS_ok hN top.sum_ok (crc_ok a0 a1 x0 x1)))))))))
theorem call_ok (a0 : Int) (a1 : Int) (x0 : Nat) (x1 : Nat) (h0 : 100 ≤ x0 ∧ x0 < 199) (h1 : 101 ≤ x1 ∧ x1 < 200) (r0 : x0 < x1) (w0 : -9223372036854775808 ≤ a0 ∧ a0 ≤ 9223372036854775807) (w1 : -9223372036854775808 ≤ a1 ∧ a1 ≤ 9223372036854775807) {S : CallF} (hS : CallOk Tryz.prog (G a0 a1 x0 x1) S) : CallOk Tryz.prog (G a0 a1 x0 x1) (evalFnR Tryz.prog X S (drawD3 Tryz.prog X) 600) := by
  have hN : NamesOk (G a0 a1 x0 x1) N := names_ok a0 a1 x0 x1 h0 h1 r0 w0 w1 
  have hX : ExtOk Tryz.prog (G a0 a1 x0 x1) X := symX_ok hN (extSym_ok hN)
  exact evalFnR_ok hX trivial hS (drawD3_ok hX trivial) 600
end Go.Proofs.YtpficieiefgbfaaGreatDoor.topmerge.l3
namespace Go.Proofs.YtpficieiefgbfaaGreatDoor.topmerge.g1
open Go Vai
set_option linter.unusedVariables false
set_option linter.unusedSimpArgs false
noncomputable def N : Names := Names.ofL tab
noncomputable def X : Extn := symX Tryz.prog N (extSym Tryz.prog N)
noncomputable def S0 : CallF := (orS (toldS 8 [] (.bool true)) (orS (namedS 9 4096 200 (cn 4098)) (orS (namedS 9 4097 200 (cn 4099)) (orS (toldS 253 pargs3 pres3) (orS (toldS 253 pargs2 pres2) (orS (toldS 11 pargs1 pres1) (orS (toldS 11 pargs0 pres0) (sumS 169 N crcs))))))))
noncomputable def call0 : CallF := evalFnR Tryz.prog X S0 (drawD3 Tryz.prog X) 600
theorem S0_ok (a0 : Int) (a1 : Int) (x0 : Nat) (x1 : Nat) (h0 : 1 ≤ x0 ∧ x0 < 10) (h1 : 0 ≤ x1 ∧ x1 < 9) (r0 : x0 > x1) (w0 : -9223372036854775808 ≤ a0 ∧ a0 ≤ 9223372036854775807) (w1 : -9223372036854775808 ≤ a1 ∧ a1 ≤ 9223372036854775807) (e0 : (a0.tmod 200).natAbs = x0) (e1 : (a1.tmod 200).natAbs = x1) : CallOk Tryz.prog (G a0 a1 x0 x1) S0 := by
  have hN : NamesOk (G a0 a1 x0 x1) N := names_ok a0 a1 x0 x1 h0 h1 r0 w0 w1 
  exact (orS_ok (toldS_ok (named_ok a0 a1 x0 x1) rfl rfl (toldTrue (top.plain_ok _) top.begun_true)) (orS_ok (namedS_ok (named_ok a0 a1 x0 x1) (by decide) (by decide) rfl fun W => (by
    have hh := top.small_calls a0 200 (by decide) (by decide) W w0
    rw [e0] at hh
    rw [gb0 a0 a1 x0 x1, gv_chan 4098, gb2 a0 a1 x0 x1]
    exact hh)) (orS_ok (namedS_ok (named_ok a0 a1 x0 x1) (by decide) (by decide) rfl fun W => (by
    have hh := top.small_calls a1 200 (by decide) (by decide) W w1
    rw [e1] at hh
    rw [gb1 a0 a1 x0 x1, gv_chan 4099, gb3 a0 a1 x0 x1]
    exact hh)) (orS_ok (toldS_ok (named_ok a0 a1 x0 x1) (by kernel_rfl) (by kernel_rfl) (pure3 a0 a1 x0 x1 h0 h1)) (orS_ok (toldS_ok (named_ok a0 a1 x0 x1) (by kernel_rfl) (by kernel_rfl) (pure2 a0 a1 x0 x1 h0 h1)) (orS_ok (toldS_ok (named_ok a0 a1 x0 x1) (by kernel_rfl) (by kernel_rfl) (pure1 a0 a1 x0 x1 h0 h1)) (orS_ok (toldS_ok (named_ok a0 a1 x0 x1) (by kernel_rfl) (by kernel_rfl) (pure0 a0 a1 x0 x1 h0 h1)) (sumS_ok hN top.sum_ok (crc_ok a0 a1 x0 x1)))))))))
theorem call_ok (a0 : Int) (a1 : Int) (x0 : Nat) (x1 : Nat) (h0 : 1 ≤ x0 ∧ x0 < 10) (h1 : 0 ≤ x1 ∧ x1 < 9) (r0 : x0 > x1) (w0 : -9223372036854775808 ≤ a0 ∧ a0 ≤ 9223372036854775807) (w1 : -9223372036854775808 ≤ a1 ∧ a1 ≤ 9223372036854775807) {S : CallF} (hS : CallOk Tryz.prog (G a0 a1 x0 x1) S) : CallOk Tryz.prog (G a0 a1 x0 x1) (evalFnR Tryz.prog X S (drawD3 Tryz.prog X) 600) := by
  have hN : NamesOk (G a0 a1 x0 x1) N := names_ok a0 a1 x0 x1 h0 h1 r0 w0 w1 
  have hX : ExtOk Tryz.prog (G a0 a1 x0 x1) X := symX_ok hN (extSym_ok hN)
  exact evalFnR_ok hX trivial hS (drawD3_ok hX trivial) 600
end Go.Proofs.YtpficieiefgbfaaGreatDoor.topmerge.g1
namespace Go.Proofs.YtpficieiefgbfaaGreatDoor.topmerge.g2
open Go Vai
set_option linter.unusedVariables false
set_option linter.unusedSimpArgs false
noncomputable def N : Names := Names.ofL tab
noncomputable def X : Extn := symX Tryz.prog N (extSym Tryz.prog N)
noncomputable def S0 : CallF := (orS (toldS 8 [] (.bool true)) (orS (namedS 9 4096 200 (cn 4098)) (orS (namedS 9 4097 200 (cn 4099)) (orS (toldS 253 pargs3 pres3) (orS (toldS 253 pargs2 pres2) (orS (toldS 11 pargs1 pres1) (orS (toldS 11 pargs0 pres0) (sumS 169 N crcs))))))))
noncomputable def call0 : CallF := evalFnR Tryz.prog X S0 (drawD3 Tryz.prog X) 600
theorem S0_ok (a0 : Int) (a1 : Int) (x0 : Nat) (x1 : Nat) (h0 : 11 ≤ x0 ∧ x0 < 100) (h1 : 10 ≤ x1 ∧ x1 < 99) (r0 : x0 > x1) (w0 : -9223372036854775808 ≤ a0 ∧ a0 ≤ 9223372036854775807) (w1 : -9223372036854775808 ≤ a1 ∧ a1 ≤ 9223372036854775807) (e0 : (a0.tmod 200).natAbs = x0) (e1 : (a1.tmod 200).natAbs = x1) : CallOk Tryz.prog (G a0 a1 x0 x1) S0 := by
  have hN : NamesOk (G a0 a1 x0 x1) N := names_ok a0 a1 x0 x1 h0 h1 r0 w0 w1 
  exact (orS_ok (toldS_ok (named_ok a0 a1 x0 x1) rfl rfl (toldTrue (top.plain_ok _) top.begun_true)) (orS_ok (namedS_ok (named_ok a0 a1 x0 x1) (by decide) (by decide) rfl fun W => (by
    have hh := top.small_calls a0 200 (by decide) (by decide) W w0
    rw [e0] at hh
    rw [gb0 a0 a1 x0 x1, gv_chan 4098, gb2 a0 a1 x0 x1]
    exact hh)) (orS_ok (namedS_ok (named_ok a0 a1 x0 x1) (by decide) (by decide) rfl fun W => (by
    have hh := top.small_calls a1 200 (by decide) (by decide) W w1
    rw [e1] at hh
    rw [gb1 a0 a1 x0 x1, gv_chan 4099, gb3 a0 a1 x0 x1]
    exact hh)) (orS_ok (toldS_ok (named_ok a0 a1 x0 x1) (by kernel_rfl) (by kernel_rfl) (pure3 a0 a1 x0 x1 h0 h1)) (orS_ok (toldS_ok (named_ok a0 a1 x0 x1) (by kernel_rfl) (by kernel_rfl) (pure2 a0 a1 x0 x1 h0 h1)) (orS_ok (toldS_ok (named_ok a0 a1 x0 x1) (by kernel_rfl) (by kernel_rfl) (pure1 a0 a1 x0 x1 h0 h1)) (orS_ok (toldS_ok (named_ok a0 a1 x0 x1) (by kernel_rfl) (by kernel_rfl) (pure0 a0 a1 x0 x1 h0 h1)) (sumS_ok hN top.sum_ok (crc_ok a0 a1 x0 x1)))))))))
theorem call_ok (a0 : Int) (a1 : Int) (x0 : Nat) (x1 : Nat) (h0 : 11 ≤ x0 ∧ x0 < 100) (h1 : 10 ≤ x1 ∧ x1 < 99) (r0 : x0 > x1) (w0 : -9223372036854775808 ≤ a0 ∧ a0 ≤ 9223372036854775807) (w1 : -9223372036854775808 ≤ a1 ∧ a1 ≤ 9223372036854775807) {S : CallF} (hS : CallOk Tryz.prog (G a0 a1 x0 x1) S) : CallOk Tryz.prog (G a0 a1 x0 x1) (evalFnR Tryz.prog X S (drawD3 Tryz.prog X) 600) := by
  have hN : NamesOk (G a0 a1 x0 x1) N := names_ok a0 a1 x0 x1 h0 h1 r0 w0 w1 
  have hX : ExtOk Tryz.prog (G a0 a1 x0 x1) X := symX_ok hN (extSym_ok hN)
  exact evalFnR_ok hX trivial hS (drawD3_ok hX trivial) 600
end Go.Proofs.YtpficieiefgbfaaGreatDoor.topmerge.g2
namespace Go.Proofs.YtpficieiefgbfaaGreatDoor.topmerge.g3
open Go Vai
set_option linter.unusedVariables false
set_option linter.unusedSimpArgs false
noncomputable def N : Names := Names.ofL tab
noncomputable def X : Extn := symX Tryz.prog N (extSym Tryz.prog N)
noncomputable def S0 : CallF := (orS (toldS 8 [] (.bool true)) (orS (namedS 9 4096 200 (cn 4098)) (orS (namedS 9 4097 200 (cn 4099)) (orS (toldS 284 pargs3 pres3) (orS (toldS 284 pargs2 pres2) (orS (toldS 11 pargs1 pres1) (orS (toldS 11 pargs0 pres0) (sumS 169 N crcs))))))))
noncomputable def call0 : CallF := evalFnR Tryz.prog X S0 (drawD3 Tryz.prog X) 600
theorem S0_ok (a0 : Int) (a1 : Int) (x0 : Nat) (x1 : Nat) (h0 : 101 ≤ x0 ∧ x0 < 200) (h1 : 100 ≤ x1 ∧ x1 < 199) (r0 : x0 > x1) (w0 : -9223372036854775808 ≤ a0 ∧ a0 ≤ 9223372036854775807) (w1 : -9223372036854775808 ≤ a1 ∧ a1 ≤ 9223372036854775807) (e0 : (a0.tmod 200).natAbs = x0) (e1 : (a1.tmod 200).natAbs = x1) : CallOk Tryz.prog (G a0 a1 x0 x1) S0 := by
  have hN : NamesOk (G a0 a1 x0 x1) N := names_ok a0 a1 x0 x1 h0 h1 r0 w0 w1 
  exact (orS_ok (toldS_ok (named_ok a0 a1 x0 x1) rfl rfl (toldTrue (top.plain_ok _) top.begun_true)) (orS_ok (namedS_ok (named_ok a0 a1 x0 x1) (by decide) (by decide) rfl fun W => (by
    have hh := top.small_calls a0 200 (by decide) (by decide) W w0
    rw [e0] at hh
    rw [gb0 a0 a1 x0 x1, gv_chan 4098, gb2 a0 a1 x0 x1]
    exact hh)) (orS_ok (namedS_ok (named_ok a0 a1 x0 x1) (by decide) (by decide) rfl fun W => (by
    have hh := top.small_calls a1 200 (by decide) (by decide) W w1
    rw [e1] at hh
    rw [gb1 a0 a1 x0 x1, gv_chan 4099, gb3 a0 a1 x0 x1]
    exact hh)) (orS_ok (toldS_ok (named_ok a0 a1 x0 x1) (by kernel_rfl) (by kernel_rfl) (pure3 a0 a1 x0 x1 h0 h1)) (orS_ok (toldS_ok (named_ok a0 a1 x0 x1) (by kernel_rfl) (by kernel_rfl) (pure2 a0 a1 x0 x1 h0 h1)) (orS_ok (toldS_ok (named_ok a0 a1 x0 x1) (by kernel_rfl) (by kernel_rfl) (pure1 a0 a1 x0 x1 h0 h1)) (orS_ok (toldS_ok (named_ok a0 a1 x0 x1) (by kernel_rfl) (by kernel_rfl) (pure0 a0 a1 x0 x1 h0 h1)) (sumS_ok hN top.sum_ok (crc_ok a0 a1 x0 x1)))))))))
theorem call_ok (a0 : Int) (a1 : Int) (x0 : Nat) (x1 : Nat) (h0 : 101 ≤ x0 ∧ x0 < 200) (h1 : 100 ≤ x1 ∧ x1 < 199) (r0 : x0 > x1) (w0 : -9223372036854775808 ≤ a0 ∧ a0 ≤ 9223372036854775807) (w1 : -9223372036854775808 ≤ a1 ∧ a1 ≤ 9223372036854775807) {S : CallF} (hS : CallOk Tryz.prog (G a0 a1 x0 x1) S) : CallOk Tryz.prog (G a0 a1 x0 x1) (evalFnR Tryz.prog X S (drawD3 Tryz.prog X) 600) := by
  have hN : NamesOk (G a0 a1 x0 x1) N := names_ok a0 a1 x0 x1 h0 h1 r0 w0 w1 
  have hX : ExtOk Tryz.prog (G a0 a1 x0 x1) X := symX_ok hN (extSym_ok hN)
  exact evalFnR_ok hX trivial hS (drawD3_ok hX trivial) 600
end Go.Proofs.YtpficieiefgbfaaGreatDoor.topmerge.g3
