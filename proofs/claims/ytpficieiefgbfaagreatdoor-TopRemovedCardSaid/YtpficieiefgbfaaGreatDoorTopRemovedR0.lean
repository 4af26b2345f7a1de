/- The law TopRemoved: the calls of the evaluator over its code, and states of the memory. -/
import Derived.Test.YtpficieiefgbfaaGreatDoorTB
import Derived.Test.YtpficieiefgbfaaGreatDoorTG
import Derived.Test.YtpficieiefgbfaaGreatDoorSM
import Derived.Test.YtpficieiefgbfaaGreatDoorTopRemovedT0
import Derived.Test.YtpficieiefgbfaaGreatDoorTopRemovedP0
import Derived.Test.YtpficieiefgbfaaGreatDoorTopRemovedP1
import Derived.KernelRfl
namespace Go.Proofs.YtpficieiefgbfaaGreatDoor.topremoved.d1f
open Go Vai
set_option linter.unusedVariables false
set_option linter.unusedSimpArgs false
noncomputable def N : Names := Names.ofL tab
noncomputable def X : Extn := symX Tryz.prog N (extSym Tryz.prog N)
noncomputable def S0 : CallF := (orS (toldS 8 [] (.bool true)) (orS (namedS 9 4096 250 (.chan (some 4097))) (orS (toldS 253 pargs1 pres1) (orS (toldS 11 pargs0 pres0) (sumS 169 N crcs)))))
noncomputable def call0 : CallF := evalFnR Tryz.prog X S0 (drawD3 Tryz.prog X) 600
theorem S0_ok (a0 : Int) (x0 : Nat) (h0 : 0 ≤ x0 ∧ x0 < 10) (w0 : -9223372036854775808 ≤ a0 ∧ a0 ≤ 9223372036854775807) (e0 : (a0.tmod 250).natAbs = x0) : CallOk Tryz.prog (G a0 x0) S0 := by
  have hN : NamesOk (G a0 x0) N := names_ok a0 x0 h0 
  exact (orS_ok (toldS_ok (named_ok a0 x0) rfl rfl (toldTrue (top.plain_ok _) top.begun_true)) (orS_ok (namedS_ok (named_ok a0 x0) (by decide) (by decide) rfl fun W => (by
    have hh := top.small_calls a0 250 (by decide) (by decide) W w0
    rw [e0] at hh
    rw [gb0 a0 x0, gv_chan 4097, gb1 a0 x0]
    exact hh)) (orS_ok (toldS_ok (named_ok a0 x0) (by kernel_rfl) (by kernel_rfl) (pure1 a0 x0 h0)) (orS_ok (toldS_ok (named_ok a0 x0) (by kernel_rfl) (by kernel_rfl) (pure0 a0 x0 h0)) (sumS_ok hN top.sum_ok (crc_ok a0 x0))))))
theorem call_ok (a0 : Int) (x0 : Nat) (h0 : 0 ≤ x0 ∧ x0 < 10) {S : CallF} (hS : CallOk Tryz.prog (G a0 x0) S) : CallOk Tryz.prog (G a0 x0) (evalFnR Tryz.prog X S (drawD3 Tryz.prog X) 600) := by
  have hN : NamesOk (G a0 x0) N := names_ok a0 x0 h0 
  have hX : ExtOk Tryz.prog (G a0 x0) X := symX_ok hN (extSym_ok hN)
  exact evalFnR_ok hX trivial hS (drawD3_ok hX trivial) 600
end Go.Proofs.YtpficieiefgbfaaGreatDoor.topremoved.d1f
namespace Go.Proofs.YtpficieiefgbfaaGreatDoor.topremoved.d2f
open Go Vai
set_option linter.unusedVariables false
set_option linter.unusedSimpArgs false
noncomputable def N : Names := Names.ofL tab
noncomputable def X : Extn := symX Tryz.prog N (extSym Tryz.prog N)
noncomputable def S0 : CallF := (orS (toldS 8 [] (.bool true)) (orS (namedS 9 4096 250 (.chan (some 4097))) (orS (toldS 253 pargs1 pres1) (orS (toldS 11 pargs0 pres0) (sumS 169 N crcs)))))
noncomputable def call0 : CallF := evalFnR Tryz.prog X S0 (drawD3 Tryz.prog X) 600
theorem S0_ok (a0 : Int) (x0 : Nat) (h0 : 10 ≤ x0 ∧ x0 < 100) (w0 : -9223372036854775808 ≤ a0 ∧ a0 ≤ 9223372036854775807) (e0 : (a0.tmod 250).natAbs = x0) : CallOk Tryz.prog (G a0 x0) S0 := by
  have hN : NamesOk (G a0 x0) N := names_ok a0 x0 h0 
  exact (orS_ok (toldS_ok (named_ok a0 x0) rfl rfl (toldTrue (top.plain_ok _) top.begun_true)) (orS_ok (namedS_ok (named_ok a0 x0) (by decide) (by decide) rfl fun W => (by
    have hh := top.small_calls a0 250 (by decide) (by decide) W w0
    rw [e0] at hh
    rw [gb0 a0 x0, gv_chan 4097, gb1 a0 x0]
    exact hh)) (orS_ok (toldS_ok (named_ok a0 x0) (by kernel_rfl) (by kernel_rfl) (pure1 a0 x0 h0)) (orS_ok (toldS_ok (named_ok a0 x0) (by kernel_rfl) (by kernel_rfl) (pure0 a0 x0 h0)) (sumS_ok hN top.sum_ok (crc_ok a0 x0))))))
theorem call_ok (a0 : Int) (x0 : Nat) (h0 : 10 ≤ x0 ∧ x0 < 100) {S : CallF} (hS : CallOk Tryz.prog (G a0 x0) S) : CallOk Tryz.prog (G a0 x0) (evalFnR Tryz.prog X S (drawD3 Tryz.prog X) 600) := by
  have hN : NamesOk (G a0 x0) N := names_ok a0 x0 h0 
  have hX : ExtOk Tryz.prog (G a0 x0) X := symX_ok hN (extSym_ok hN)
  exact evalFnR_ok hX trivial hS (drawD3_ok hX trivial) 600
end Go.Proofs.YtpficieiefgbfaaGreatDoor.topremoved.d2f
namespace Go.Proofs.YtpficieiefgbfaaGreatDoor.topremoved.d3f
open Go Vai
set_option linter.unusedVariables false
set_option linter.unusedSimpArgs false
noncomputable def N : Names := Names.ofL tab
noncomputable def X : Extn := symX Tryz.prog N (extSym Tryz.prog N)
noncomputable def S0 : CallF := (orS (toldS 8 [] (.bool true)) (orS (namedS 9 4096 250 (.chan (some 4097))) (orS (toldS 284 pargs1 pres1) (orS (toldS 11 pargs0 pres0) (sumS 169 N crcs)))))
noncomputable def call0 : CallF := evalFnR Tryz.prog X S0 (drawD3 Tryz.prog X) 600
theorem S0_ok (a0 : Int) (x0 : Nat) (h0 : 100 ≤ x0 ∧ x0 < 250) (w0 : -9223372036854775808 ≤ a0 ∧ a0 ≤ 9223372036854775807) (e0 : (a0.tmod 250).natAbs = x0) : CallOk Tryz.prog (G a0 x0) S0 := by
  have hN : NamesOk (G a0 x0) N := names_ok a0 x0 h0 
  exact (orS_ok (toldS_ok (named_ok a0 x0) rfl rfl (toldTrue (top.plain_ok _) top.begun_true)) (orS_ok (namedS_ok (named_ok a0 x0) (by decide) (by decide) rfl fun W => (by
    have hh := top.small_calls a0 250 (by decide) (by decide) W w0
    rw [e0] at hh
    rw [gb0 a0 x0, gv_chan 4097, gb1 a0 x0]
    exact hh)) (orS_ok (toldS_ok (named_ok a0 x0) (by kernel_rfl) (by kernel_rfl) (pure1 a0 x0 h0)) (orS_ok (toldS_ok (named_ok a0 x0) (by kernel_rfl) (by kernel_rfl) (pure0 a0 x0 h0)) (sumS_ok hN top.sum_ok (crc_ok a0 x0))))))
theorem call_ok (a0 : Int) (x0 : Nat) (h0 : 100 ≤ x0 ∧ x0 < 250) {S : CallF} (hS : CallOk Tryz.prog (G a0 x0) S) : CallOk Tryz.prog (G a0 x0) (evalFnR Tryz.prog X S (drawD3 Tryz.prog X) 600) := by
  have hN : NamesOk (G a0 x0) N := names_ok a0 x0 h0 
  have hX : ExtOk Tryz.prog (G a0 x0) X := symX_ok hN (extSym_ok hN)
  exact evalFnR_ok hX trivial hS (drawD3_ok hX trivial) 600
end Go.Proofs.YtpficieiefgbfaaGreatDoor.topremoved.d3f
namespace Go.Proofs.YtpficieiefgbfaaGreatDoor.topremoved.d1t
open Go Vai
set_option linter.unusedVariables false
set_option linter.unusedSimpArgs false
noncomputable def N : Names := Names.ofL tab
noncomputable def X : Extn := symX Tryz.prog N (extSym Tryz.prog N)
noncomputable def S0 : CallF := (orS (toldS 8 [] (.bool true)) (orS (namedS 9 4096 250 (.chan (some 4097))) (orS (toldS 253 pargs1 pres1) (orS (toldS 11 pargs0 pres0) (sumS 169 N crcs)))))
noncomputable def call0 : CallF := evalFnR Tryz.prog X S0 (drawD3 Tryz.prog X) 600
theorem S0_ok (a0 : Int) (x0 : Nat) (h0 : 0 ≤ x0 ∧ x0 < 10) (w0 : -9223372036854775808 ≤ a0 ∧ a0 ≤ 9223372036854775807) (e0 : (a0.tmod 250).natAbs = x0) : CallOk Tryz.prog (G a0 x0) S0 := by
  have hN : NamesOk (G a0 x0) N := names_ok a0 x0 h0 
  exact (orS_ok (toldS_ok (named_ok a0 x0) rfl rfl (toldTrue (top.plain_ok _) top.begun_true)) (orS_ok (namedS_ok (named_ok a0 x0) (by decide) (by decide) rfl fun W => (by
    have hh := top.small_calls a0 250 (by decide) (by decide) W w0
    rw [e0] at hh
    rw [gb0 a0 x0, gv_chan 4097, gb1 a0 x0]
    exact hh)) (orS_ok (toldS_ok (named_ok a0 x0) (by kernel_rfl) (by kernel_rfl) (pure1 a0 x0 h0)) (orS_ok (toldS_ok (named_ok a0 x0) (by kernel_rfl) (by kernel_rfl) (pure0 a0 x0 h0)) (sumS_ok hN top.sum_ok (crc_ok a0 x0))))))
theorem call_ok (a0 : Int) (x0 : Nat) (h0 : 0 ≤ x0 ∧ x0 < 10) {S : CallF} (hS : CallOk Tryz.prog (G a0 x0) S) : CallOk Tryz.prog (G a0 x0) (evalFnR Tryz.prog X S (drawD3 Tryz.prog X) 600) := by
  have hN : NamesOk (G a0 x0) N := names_ok a0 x0 h0 
  have hX : ExtOk Tryz.prog (G a0 x0) X := symX_ok hN (extSym_ok hN)
  exact evalFnR_ok hX trivial hS (drawD3_ok hX trivial) 600
end Go.Proofs.YtpficieiefgbfaaGreatDoor.topremoved.d1t
namespace Go.Proofs.YtpficieiefgbfaaGreatDoor.topremoved.d2t
open Go Vai
set_option linter.unusedVariables false
set_option linter.unusedSimpArgs false
noncomputable def N : Names := Names.ofL tab
noncomputable def X : Extn := symX Tryz.prog N (extSym Tryz.prog N)
noncomputable def S0 : CallF := (orS (toldS 8 [] (.bool true)) (orS (namedS 9 4096 250 (.chan (some 4097))) (orS (toldS 253 pargs1 pres1) (orS (toldS 11 pargs0 pres0) (sumS 169 N crcs)))))
noncomputable def call0 : CallF := evalFnR Tryz.prog X S0 (drawD3 Tryz.prog X) 600
theorem S0_ok (a0 : Int) (x0 : Nat) (h0 : 10 ≤ x0 ∧ x0 < 100) (w0 : -9223372036854775808 ≤ a0 ∧ a0 ≤ 9223372036854775807) (e0 : (a0.tmod 250).natAbs = x0) : CallOk Tryz.prog (G a0 x0) S0 := by
  have hN : NamesOk (G a0 x0) N := names_ok a0 x0 h0 
  exact (orS_ok (toldS_ok (named_ok a0 x0) rfl rfl (toldTrue (top.plain_ok _) top.begun_true)) (orS_ok (namedS_ok (named_ok a0 x0) (by decide) (by decide) rfl fun W => (by
    have hh := top.small_calls a0 250 (by decide) (by decide) W w0
    rw [e0] at hh
    rw [gb0 a0 x0, gv_chan 4097, gb1 a0 x0]
    exact hh)) (orS_ok (toldS_ok (named_ok a0 x0) (by kernel_rfl) (by kernel_rfl) (pure1 a0 x0 h0)) (orS_ok (toldS_ok (named_ok a0 x0) (by kernel_rfl) (by kernel_rfl) (pure0 a0 x0 h0)) (sumS_ok hN top.sum_ok (crc_ok a0 x0))))))
theorem call_ok (a0 : Int) (x0 : Nat) (h0 : 10 ≤ x0 ∧ x0 < 100) {S : CallF} (hS : CallOk Tryz.prog (G a0 x0) S) : CallOk Tryz.prog (G a0 x0) (evalFnR Tryz.prog X S (drawD3 Tryz.prog X) 600) := by
  have hN : NamesOk (G a0 x0) N := names_ok a0 x0 h0 
  have hX : ExtOk Tryz.prog (G a0 x0) X := symX_ok hN (extSym_ok hN)
  exact evalFnR_ok hX trivial hS (drawD3_ok hX trivial) 600
end Go.Proofs.YtpficieiefgbfaaGreatDoor.topremoved.d2t
namespace Go.Proofs.YtpficieiefgbfaaGreatDoor.topremoved.d3t
open Go Vai
set_option linter.unusedVariables false
set_option linter.unusedSimpArgs false
noncomputable def N : Names := Names.ofL tab
noncomputable def X : Extn := symX Tryz.prog N (extSym Tryz.prog N)
noncomputable def S0 : CallF := (orS (toldS 8 [] (.bool true)) (orS (namedS 9 4096 250 (.chan (some 4097))) (orS (toldS 284 pargs1 pres1) (orS (toldS 11 pargs0 pres0) (sumS 169 N crcs)))))
noncomputable def call0 : CallF := evalFnR Tryz.prog X S0 (drawD3 Tryz.prog X) 600
theorem S0_ok (a0 : Int) (x0 : Nat) (h0 : 100 ≤ x0 ∧ x0 < 250) (w0 : -9223372036854775808 ≤ a0 ∧ a0 ≤ 9223372036854775807) (e0 : (a0.tmod 250).natAbs = x0) : CallOk Tryz.prog (G a0 x0) S0 := by
  have hN : NamesOk (G a0 x0) N := names_ok a0 x0 h0 
  exact (orS_ok (toldS_ok (named_ok a0 x0) rfl rfl (toldTrue (top.plain_ok _) top.begun_true)) (orS_ok (namedS_ok (named_ok a0 x0) (by decide) (by decide) rfl fun W => (by
    have hh := top.small_calls a0 250 (by decide) (by decide) W w0
    rw [e0] at hh
    rw [gb0 a0 x0, gv_chan 4097, gb1 a0 x0]
    exact hh)) (orS_ok (toldS_ok (named_ok a0 x0) (by kernel_rfl) (by kernel_rfl) (pure1 a0 x0 h0)) (orS_ok (toldS_ok (named_ok a0 x0) (by kernel_rfl) (by kernel_rfl) (pure0 a0 x0 h0)) (sumS_ok hN top.sum_ok (crc_ok a0 x0))))))
theorem call_ok (a0 : Int) (x0 : Nat) (h0 : 100 ≤ x0 ∧ x0 < 250) {S : CallF} (hS : CallOk Tryz.prog (G a0 x0) S) : CallOk Tryz.prog (G a0 x0) (evalFnR Tryz.prog X S (drawD3 Tryz.prog X) 600) := by
  have hN : NamesOk (G a0 x0) N := names_ok a0 x0 h0 
  have hX : ExtOk Tryz.prog (G a0 x0) X := symX_ok hN (extSym_ok hN)
  exact evalFnR_ok hX trivial hS (drawD3_ok hX trivial) 600
end Go.Proofs.YtpficieiefgbfaaGreatDoor.topremoved.d3t
