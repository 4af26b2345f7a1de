/- The law TopLasts: the calls of the evaluator over its code, and states of the memory. -/
import Derived.Test.YtemmgompegkgkaaGreatDoorTB
import Derived.Test.YtemmgompegkgkaaGreatDoorTG
import Derived.Test.YtemmgompegkgkaaGreatDoorSM
import Derived.Test.YtemmgompegkgkaaGreatDoorTopLastsT0
import Derived.Test.YtemmgompegkgkaaGreatDoorTopLastsT1
import Derived.Test.YtemmgompegkgkaaGreatDoorTopLastsP0
import Derived.Test.YtemmgompegkgkaaGreatDoorTopLastsP1
import Derived.Test.YtemmgompegkgkaaGreatDoorTopLastsP2
import Derived.Test.YtemmgompegkgkaaGreatDoorTopLastsP3
import Derived.KernelRfl
namespace Go.Proofs.YtemmgompegkgkaaGreatDoor.toplasts.d1w0f
open Go Vai
set_option linter.unusedVariables false
set_option linter.unusedSimpArgs false
noncomputable def N : Names := Names.ofL tab
noncomputable def X : Extn := symX Tryz.prog N (extSym Tryz.prog N)
noncomputable def S0 : CallF := (orS (toldS 8 [] (.bool true)) (orS (namedS 9 4096 250 (cn 4098)) (orS (namedS 9 4097 900 (jn 0)) (orS (toldS 257 pargs1 pres1) (orS (toldS 11 pargs0 pres0) (sumS 175 N crcs))))))
noncomputable def call0 : CallF := evalFnR Tryz.prog X S0 (drawD3 Tryz.prog X) 600
theorem S0_ok (a0 : Int) (a1 : Int) (x0 : Nat) (h0 : 0 ≤ x0 ∧ x0 < 10) (w0 : -9223372036854775808 ≤ a0 ∧ a0 ≤ 9223372036854775807) (w1 : -9223372036854775808 ≤ a1 ∧ a1 ≤ 9223372036854775807) (e0 : (a0.tmod 250).natAbs = x0) (e1 : (a1.tmod 900).natAbs = 0) : CallOk Tryz.prog (G a0 a1 x0) S0 := by
  have hN : NamesOk (G a0 a1 x0) N := names_ok a0 a1 x0 h0  w0 w1 
  exact (orS_ok (toldS_ok (named_ok a0 a1 x0) rfl rfl (toldTrue (top.plain_ok _) top.begun_true)) (orS_ok (namedS_ok (named_ok a0 a1 x0) (by decide) (by decide) rfl fun W => (by
    have hh := top.small_calls a0 250 (by decide) (by decide) W w0
    rw [e0] at hh
    rw [gb0 a0 a1 x0, gv_chan 4098, gb2 a0 a1 x0]
    exact hh)) (orS_ok (namedS_ok (named_ok a0 a1 x0) (by decide) (by decide) rfl fun W => (by
    have hh := top.small_calls a1 900 (by decide) (by decide) W w1
    rw [e1] at hh
    rw [gb1 a0 a1 x0]
    exact hh)) (orS_ok (toldS_ok (named_ok a0 a1 x0) (by kernel_rfl) (by kernel_rfl) (pure1 a0 a1 x0 h0)) (orS_ok (toldS_ok (named_ok a0 a1 x0) (by kernel_rfl) (by kernel_rfl) (pure0 a0 a1 x0 h0)) (sumS_ok hN top.sum_ok (crc_ok a0 a1 x0)))))))
theorem call_ok (a0 : Int) (a1 : Int) (x0 : Nat) (h0 : 0 ≤ x0 ∧ x0 < 10) (w0 : -9223372036854775808 ≤ a0 ∧ a0 ≤ 9223372036854775807) (w1 : -9223372036854775808 ≤ a1 ∧ a1 ≤ 9223372036854775807) {S : CallF} (hS : CallOk Tryz.prog (G a0 a1 x0) S) : CallOk Tryz.prog (G a0 a1 x0) (evalFnR Tryz.prog X S (drawD3 Tryz.prog X) 600) := by
  have hN : NamesOk (G a0 a1 x0) N := names_ok a0 a1 x0 h0  w0 w1 
  have hX : ExtOk Tryz.prog (G a0 a1 x0) X := symX_ok hN (extSym_ok hN)
  exact evalFnR_ok hX trivial hS (drawD3_ok hX trivial) 600
end Go.Proofs.YtemmgompegkgkaaGreatDoor.toplasts.d1w0f
namespace Go.Proofs.YtemmgompegkgkaaGreatDoor.toplasts.d1w1f
open Go Vai
set_option linter.unusedVariables false
set_option linter.unusedSimpArgs false
noncomputable def N : Names := Names.ofL tab
noncomputable def X : Extn := symX Tryz.prog N (extSym Tryz.prog N)
noncomputable def S0 : CallF := (orS (toldS 8 [] (.bool true)) (orS (namedS 9 4096 250 (cn 4098)) (orS (namedS 9 4097 900 (cn 4099)) (orS (toldS 257 pargs1 pres1) (orS (toldS 11 pargs0 pres0) (sumS 175 N crcs))))))
noncomputable def call0 : CallF := evalFnR Tryz.prog X S0 (drawD3 Tryz.prog X) 600
theorem S0_ok (a0 : Int) (a1 : Int) (x0 : Nat) (x1 : Nat) (h0 : 0 ≤ x0 ∧ x0 < 10) (h1 : 1 ≤ x1 ∧ x1 < 600) (w0 : -9223372036854775808 ≤ a0 ∧ a0 ≤ 9223372036854775807) (w1 : -9223372036854775808 ≤ a1 ∧ a1 ≤ 9223372036854775807) (e0 : (a0.tmod 250).natAbs = x0) (e1 : (a1.tmod 900).natAbs = x1) : CallOk Tryz.prog (G a0 a1 x0 x1) S0 := by
  have hN : NamesOk (G a0 a1 x0 x1) N := names_ok a0 a1 x0 x1 h0 h1  w0 w1 
  exact (orS_ok (toldS_ok (named_ok a0 a1 x0 x1) rfl rfl (toldTrue (top.plain_ok _) top.begun_true)) (orS_ok (namedS_ok (named_ok a0 a1 x0 x1) (by decide) (by decide) rfl fun W => (by
    have hh := top.small_calls a0 250 (by decide) (by decide) W w0
    rw [e0] at hh
    rw [gb0 a0 a1 x0 x1, gv_chan 4098, gb2 a0 a1 x0 x1]
    exact hh)) (orS_ok (namedS_ok (named_ok a0 a1 x0 x1) (by decide) (by decide) rfl fun W => (by
    have hh := top.small_calls a1 900 (by decide) (by decide) W w1
    rw [e1] at hh
    rw [gb1 a0 a1 x0 x1, gv_chan 4099, gb3 a0 a1 x0 x1]
    exact hh)) (orS_ok (toldS_ok (named_ok a0 a1 x0 x1) (by kernel_rfl) (by kernel_rfl) (pure1 a0 a1 x0 x1 h0 h1)) (orS_ok (toldS_ok (named_ok a0 a1 x0 x1) (by kernel_rfl) (by kernel_rfl) (pure0 a0 a1 x0 x1 h0 h1)) (sumS_ok hN top.sum_ok (crc_ok a0 a1 x0 x1)))))))
theorem call_ok (a0 : Int) (a1 : Int) (x0 : Nat) (x1 : Nat) (h0 : 0 ≤ x0 ∧ x0 < 10) (h1 : 1 ≤ x1 ∧ x1 < 600) (w0 : -9223372036854775808 ≤ a0 ∧ a0 ≤ 9223372036854775807) (w1 : -9223372036854775808 ≤ a1 ∧ a1 ≤ 9223372036854775807) {S : CallF} (hS : CallOk Tryz.prog (G a0 a1 x0 x1) S) : CallOk Tryz.prog (G a0 a1 x0 x1) (evalFnR Tryz.prog X S (drawD3 Tryz.prog X) 600) := by
  have hN : NamesOk (G a0 a1 x0 x1) N := names_ok a0 a1 x0 x1 h0 h1  w0 w1 
  have hX : ExtOk Tryz.prog (G a0 a1 x0 x1) X := symX_ok hN (extSym_ok hN)
  exact evalFnR_ok hX trivial hS (drawD3_ok hX trivial) 600
end Go.Proofs.YtemmgompegkgkaaGreatDoor.toplasts.d1w1f
namespace Go.Proofs.YtemmgompegkgkaaGreatDoor.toplasts.d1w2f
open Go Vai
set_option linter.unusedVariables false
set_option linter.unusedSimpArgs false
noncomputable def N : Names := Names.ofL tab
noncomputable def X : Extn := symX Tryz.prog N (extSym Tryz.prog N)
noncomputable def S0 : CallF := (orS (toldS 8 [] (.bool true)) (orS (namedS 9 4096 250 (cn 4098)) (orS (namedS 9 4097 900 (jn 600)) (orS (toldS 257 pargs1 pres1) (orS (toldS 11 pargs0 pres0) (sumS 175 N crcs))))))
noncomputable def call0 : CallF := evalFnR Tryz.prog X S0 (drawD3 Tryz.prog X) 600
theorem S0_ok (a0 : Int) (a1 : Int) (x0 : Nat) (h0 : 0 ≤ x0 ∧ x0 < 10) (w0 : -9223372036854775808 ≤ a0 ∧ a0 ≤ 9223372036854775807) (w1 : -9223372036854775808 ≤ a1 ∧ a1 ≤ 9223372036854775807) (e0 : (a0.tmod 250).natAbs = x0) (e1 : (a1.tmod 900).natAbs = 600) : CallOk Tryz.prog (G a0 a1 x0) S0 := by
  have hN : NamesOk (G a0 a1 x0) N := names_ok a0 a1 x0 h0  w0 w1 
  exact (orS_ok (toldS_ok (named_ok a0 a1 x0) rfl rfl (toldTrue (top.plain_ok _) top.begun_true)) (orS_ok (namedS_ok (named_ok a0 a1 x0) (by decide) (by decide) rfl fun W => (by
    have hh := top.small_calls a0 250 (by decide) (by decide) W w0
    rw [e0] at hh
    rw [gb0 a0 a1 x0, gv_chan 4098, gb2 a0 a1 x0]
    exact hh)) (orS_ok (namedS_ok (named_ok a0 a1 x0) (by decide) (by decide) rfl fun W => (by
    have hh := top.small_calls a1 900 (by decide) (by decide) W w1
    rw [e1] at hh
    rw [gb1 a0 a1 x0]
    exact hh)) (orS_ok (toldS_ok (named_ok a0 a1 x0) (by kernel_rfl) (by kernel_rfl) (pure1 a0 a1 x0 h0)) (orS_ok (toldS_ok (named_ok a0 a1 x0) (by kernel_rfl) (by kernel_rfl) (pure0 a0 a1 x0 h0)) (sumS_ok hN top.sum_ok (crc_ok a0 a1 x0)))))))
theorem call_ok (a0 : Int) (a1 : Int) (x0 : Nat) (h0 : 0 ≤ x0 ∧ x0 < 10) (w0 : -9223372036854775808 ≤ a0 ∧ a0 ≤ 9223372036854775807) (w1 : -9223372036854775808 ≤ a1 ∧ a1 ≤ 9223372036854775807) {S : CallF} (hS : CallOk Tryz.prog (G a0 a1 x0) S) : CallOk Tryz.prog (G a0 a1 x0) (evalFnR Tryz.prog X S (drawD3 Tryz.prog X) 600) := by
  have hN : NamesOk (G a0 a1 x0) N := names_ok a0 a1 x0 h0  w0 w1 
  have hX : ExtOk Tryz.prog (G a0 a1 x0) X := symX_ok hN (extSym_ok hN)
  exact evalFnR_ok hX trivial hS (drawD3_ok hX trivial) 600
end Go.Proofs.YtemmgompegkgkaaGreatDoor.toplasts.d1w2f
namespace Go.Proofs.YtemmgompegkgkaaGreatDoor.toplasts.d1w3f
open Go Vai
set_option linter.unusedVariables false
set_option linter.unusedSimpArgs false
noncomputable def N : Names := Names.ofL tab
noncomputable def X : Extn := symX Tryz.prog N (extSym Tryz.prog N)
noncomputable def S0 : CallF := (orS (toldS 8 [] (.bool true)) (orS (namedS 9 4096 250 (cn 4098)) (orS (namedS 9 4097 900 (cn 4099)) (orS (toldS 257 pargs1 pres1) (orS (toldS 11 pargs0 pres0) (sumS 175 N crcs))))))
noncomputable def call0 : CallF := evalFnR Tryz.prog X S0 (drawD3 Tryz.prog X) 600
theorem S0_ok (a0 : Int) (a1 : Int) (x0 : Nat) (x1 : Nat) (h0 : 0 ≤ x0 ∧ x0 < 10) (h1 : 601 ≤ x1 ∧ x1 < 900) (w0 : -9223372036854775808 ≤ a0 ∧ a0 ≤ 9223372036854775807) (w1 : -9223372036854775808 ≤ a1 ∧ a1 ≤ 9223372036854775807) (e0 : (a0.tmod 250).natAbs = x0) (e1 : (a1.tmod 900).natAbs = x1) : CallOk Tryz.prog (G a0 a1 x0 x1) S0 := by
  have hN : NamesOk (G a0 a1 x0 x1) N := names_ok a0 a1 x0 x1 h0 h1  w0 w1 
  exact (orS_ok (toldS_ok (named_ok a0 a1 x0 x1) rfl rfl (toldTrue (top.plain_ok _) top.begun_true)) (orS_ok (namedS_ok (named_ok a0 a1 x0 x1) (by decide) (by decide) rfl fun W => (by
    have hh := top.small_calls a0 250 (by decide) (by decide) W w0
    rw [e0] at hh
    rw [gb0 a0 a1 x0 x1, gv_chan 4098, gb2 a0 a1 x0 x1]
    exact hh)) (orS_ok (namedS_ok (named_ok a0 a1 x0 x1) (by decide) (by decide) rfl fun W => (by
    have hh := top.small_calls a1 900 (by decide) (by decide) W w1
    rw [e1] at hh
    rw [gb1 a0 a1 x0 x1, gv_chan 4099, gb3 a0 a1 x0 x1]
    exact hh)) (orS_ok (toldS_ok (named_ok a0 a1 x0 x1) (by kernel_rfl) (by kernel_rfl) (pure1 a0 a1 x0 x1 h0 h1)) (orS_ok (toldS_ok (named_ok a0 a1 x0 x1) (by kernel_rfl) (by kernel_rfl) (pure0 a0 a1 x0 x1 h0 h1)) (sumS_ok hN top.sum_ok (crc_ok a0 a1 x0 x1)))))))
theorem call_ok (a0 : Int) (a1 : Int) (x0 : Nat) (x1 : Nat) (h0 : 0 ≤ x0 ∧ x0 < 10) (h1 : 601 ≤ x1 ∧ x1 < 900) (w0 : -9223372036854775808 ≤ a0 ∧ a0 ≤ 9223372036854775807) (w1 : -9223372036854775808 ≤ a1 ∧ a1 ≤ 9223372036854775807) {S : CallF} (hS : CallOk Tryz.prog (G a0 a1 x0 x1) S) : CallOk Tryz.prog (G a0 a1 x0 x1) (evalFnR Tryz.prog X S (drawD3 Tryz.prog X) 600) := by
  have hN : NamesOk (G a0 a1 x0 x1) N := names_ok a0 a1 x0 x1 h0 h1  w0 w1 
  have hX : ExtOk Tryz.prog (G a0 a1 x0 x1) X := symX_ok hN (extSym_ok hN)
  exact evalFnR_ok hX trivial hS (drawD3_ok hX trivial) 600
end Go.Proofs.YtemmgompegkgkaaGreatDoor.toplasts.d1w3f
namespace Go.Proofs.YtemmgompegkgkaaGreatDoor.toplasts.d2w0f
open Go Vai
set_option linter.unusedVariables false
set_option linter.unusedSimpArgs false
noncomputable def N : Names := Names.ofL tab
noncomputable def X : Extn := symX Tryz.prog N (extSym Tryz.prog N)
noncomputable def S0 : CallF := (orS (toldS 8 [] (.bool true)) (orS (namedS 9 4096 250 (cn 4098)) (orS (namedS 9 4097 900 (jn 0)) (orS (toldS 257 pargs1 pres1) (orS (toldS 11 pargs0 pres0) (sumS 175 N crcs))))))
noncomputable def call0 : CallF := evalFnR Tryz.prog X S0 (drawD3 Tryz.prog X) 600
theorem S0_ok (a0 : Int) (a1 : Int) (x0 : Nat) (h0 : 10 ≤ x0 ∧ x0 < 100) (w0 : -9223372036854775808 ≤ a0 ∧ a0 ≤ 9223372036854775807) (w1 : -9223372036854775808 ≤ a1 ∧ a1 ≤ 9223372036854775807) (e0 : (a0.tmod 250).natAbs = x0) (e1 : (a1.tmod 900).natAbs = 0) : CallOk Tryz.prog (G a0 a1 x0) S0 := by
  have hN : NamesOk (G a0 a1 x0) N := names_ok a0 a1 x0 h0  w0 w1 
  exact (orS_ok (toldS_ok (named_ok a0 a1 x0) rfl rfl (toldTrue (top.plain_ok _) top.begun_true)) (orS_ok (namedS_ok (named_ok a0 a1 x0) (by decide) (by decide) rfl fun W => (by
    have hh := top.small_calls a0 250 (by decide) (by decide) W w0
    rw [e0] at hh
    rw [gb0 a0 a1 x0, gv_chan 4098, gb2 a0 a1 x0]
    exact hh)) (orS_ok (namedS_ok (named_ok a0 a1 x0) (by decide) (by decide) rfl fun W => (by
    have hh := top.small_calls a1 900 (by decide) (by decide) W w1
    rw [e1] at hh
    rw [gb1 a0 a1 x0]
    exact hh)) (orS_ok (toldS_ok (named_ok a0 a1 x0) (by kernel_rfl) (by kernel_rfl) (pure1 a0 a1 x0 h0)) (orS_ok (toldS_ok (named_ok a0 a1 x0) (by kernel_rfl) (by kernel_rfl) (pure0 a0 a1 x0 h0)) (sumS_ok hN top.sum_ok (crc_ok a0 a1 x0)))))))
theorem call_ok (a0 : Int) (a1 : Int) (x0 : Nat) (h0 : 10 ≤ x0 ∧ x0 < 100) (w0 : -9223372036854775808 ≤ a0 ∧ a0 ≤ 9223372036854775807) (w1 : -9223372036854775808 ≤ a1 ∧ a1 ≤ 9223372036854775807) {S : CallF} (hS : CallOk Tryz.prog (G a0 a1 x0) S) : CallOk Tryz.prog (G a0 a1 x0) (evalFnR Tryz.prog X S (drawD3 Tryz.prog X) 600) := by
  have hN : NamesOk (G a0 a1 x0) N := names_ok a0 a1 x0 h0  w0 w1 
  have hX : ExtOk Tryz.prog (G a0 a1 x0) X := symX_ok hN (extSym_ok hN)
  exact evalFnR_ok hX trivial hS (drawD3_ok hX trivial) 600
end Go.Proofs.YtemmgompegkgkaaGreatDoor.toplasts.d2w0f
namespace Go.Proofs.YtemmgompegkgkaaGreatDoor.toplasts.d2w1f
open Go Vai
set_option linter.unusedVariables false
set_option linter.unusedSimpArgs false
noncomputable def N : Names := Names.ofL tab
noncomputable def X : Extn := symX Tryz.prog N (extSym Tryz.prog N)
noncomputable def S0 : CallF := (orS (toldS 8 [] (.bool true)) (orS (namedS 9 4096 250 (cn 4098)) (orS (namedS 9 4097 900 (cn 4099)) (orS (toldS 257 pargs1 pres1) (orS (toldS 11 pargs0 pres0) (sumS 175 N crcs))))))
noncomputable def call0 : CallF := evalFnR Tryz.prog X S0 (drawD3 Tryz.prog X) 600
theorem S0_ok (a0 : Int) (a1 : Int) (x0 : Nat) (x1 : Nat) (h0 : 10 ≤ x0 ∧ x0 < 100) (h1 : 1 ≤ x1 ∧ x1 < 600) (w0 : -9223372036854775808 ≤ a0 ∧ a0 ≤ 9223372036854775807) (w1 : -9223372036854775808 ≤ a1 ∧ a1 ≤ 9223372036854775807) (e0 : (a0.tmod 250).natAbs = x0) (e1 : (a1.tmod 900).natAbs = x1) : CallOk Tryz.prog (G a0 a1 x0 x1) S0 := by
  have hN : NamesOk (G a0 a1 x0 x1) N := names_ok a0 a1 x0 x1 h0 h1  w0 w1 
  exact (orS_ok (toldS_ok (named_ok a0 a1 x0 x1) rfl rfl (toldTrue (top.plain_ok _) top.begun_true)) (orS_ok (namedS_ok (named_ok a0 a1 x0 x1) (by decide) (by decide) rfl fun W => (by
    have hh := top.small_calls a0 250 (by decide) (by decide) W w0
    rw [e0] at hh
    rw [gb0 a0 a1 x0 x1, gv_chan 4098, gb2 a0 a1 x0 x1]
    exact hh)) (orS_ok (namedS_ok (named_ok a0 a1 x0 x1) (by decide) (by decide) rfl fun W => (by
    have hh := top.small_calls a1 900 (by decide) (by decide) W w1
    rw [e1] at hh
    rw [gb1 a0 a1 x0 x1, gv_chan 4099, gb3 a0 a1 x0 x1]
    exact hh)) (orS_ok (toldS_ok (named_ok a0 a1 x0 x1) (by kernel_rfl) (by kernel_rfl) (pure1 a0 a1 x0 x1 h0 h1)) (orS_ok (toldS_ok (named_ok a0 a1 x0 x1) (by kernel_rfl) (by kernel_rfl) (pure0 a0 a1 x0 x1 h0 h1)) (sumS_ok hN top.sum_ok (crc_ok a0 a1 x0 x1)))))))
theorem call_ok (a0 : Int) (a1 : Int) (x0 : Nat) (x1 : Nat) (h0 : 10 ≤ x0 ∧ x0 < 100) (h1 : 1 ≤ x1 ∧ x1 < 600) (w0 : -9223372036854775808 ≤ a0 ∧ a0 ≤ 9223372036854775807) (w1 : -9223372036854775808 ≤ a1 ∧ a1 ≤ 9223372036854775807) {S : CallF} (hS : CallOk Tryz.prog (G a0 a1 x0 x1) S) : CallOk Tryz.prog (G a0 a1 x0 x1) (evalFnR Tryz.prog X S (drawD3 Tryz.prog X) 600) := by
  have hN : NamesOk (G a0 a1 x0 x1) N := names_ok a0 a1 x0 x1 h0 h1  w0 w1 
  have hX : ExtOk Tryz.prog (G a0 a1 x0 x1) X := symX_ok hN (extSym_ok hN)
  exact evalFnR_ok hX trivial hS (drawD3_ok hX trivial) 600
end Go.Proofs.YtemmgompegkgkaaGreatDoor.toplasts.d2w1f
namespace Go.Proofs.YtemmgompegkgkaaGreatDoor.toplasts.d2w2f
open Go Vai
set_option linter.unusedVariables false
set_option linter.unusedSimpArgs false
noncomputable def N : Names := Names.ofL tab
noncomputable def X : Extn := symX Tryz.prog N (extSym Tryz.prog N)
noncomputable def S0 : CallF := (orS (toldS 8 [] (.bool true)) (orS (namedS 9 4096 250 (cn 4098)) (orS (namedS 9 4097 900 (jn 600)) (orS (toldS 257 pargs1 pres1) (orS (toldS 11 pargs0 pres0) (sumS 175 N crcs))))))
noncomputable def call0 : CallF := evalFnR Tryz.prog X S0 (drawD3 Tryz.prog X) 600
theorem S0_ok (a0 : Int) (a1 : Int) (x0 : Nat) (h0 : 10 ≤ x0 ∧ x0 < 100) (w0 : -9223372036854775808 ≤ a0 ∧ a0 ≤ 9223372036854775807) (w1 : -9223372036854775808 ≤ a1 ∧ a1 ≤ 9223372036854775807) (e0 : (a0.tmod 250).natAbs = x0) (e1 : (a1.tmod 900).natAbs = 600) : CallOk Tryz.prog (G a0 a1 x0) S0 := by
  have hN : NamesOk (G a0 a1 x0) N := names_ok a0 a1 x0 h0  w0 w1 
  exact (orS_ok (toldS_ok (named_ok a0 a1 x0) rfl rfl (toldTrue (top.plain_ok _) top.begun_true)) (orS_ok (namedS_ok (named_ok a0 a1 x0) (by decide) (by decide) rfl fun W => (by
    have hh := top.small_calls a0 250 (by decide) (by decide) W w0
    rw [e0] at hh
    rw [gb0 a0 a1 x0, gv_chan 4098, gb2 a0 a1 x0]
    exact hh)) (orS_ok (namedS_ok (named_ok a0 a1 x0) (by decide) (by decide) rfl fun W => (by
    have hh := top.small_calls a1 900 (by decide) (by decide) W w1
    rw [e1] at hh
    rw [gb1 a0 a1 x0]
    exact hh)) (orS_ok (toldS_ok (named_ok a0 a1 x0) (by kernel_rfl) (by kernel_rfl) (pure1 a0 a1 x0 h0)) (orS_ok (toldS_ok (named_ok a0 a1 x0) (by kernel_rfl) (by kernel_rfl) (pure0 a0 a1 x0 h0)) (sumS_ok hN top.sum_ok (crc_ok a0 a1 x0)))))))
theorem call_ok (a0 : Int) (a1 : Int) (x0 : Nat) (h0 : 10 ≤ x0 ∧ x0 < 100) (w0 : -9223372036854775808 ≤ a0 ∧ a0 ≤ 9223372036854775807) (w1 : -9223372036854775808 ≤ a1 ∧ a1 ≤ 9223372036854775807) {S : CallF} (hS : CallOk Tryz.prog (G a0 a1 x0) S) : CallOk Tryz.prog (G a0 a1 x0) (evalFnR Tryz.prog X S (drawD3 Tryz.prog X) 600) := by
  have hN : NamesOk (G a0 a1 x0) N := names_ok a0 a1 x0 h0  w0 w1 
  have hX : ExtOk Tryz.prog (G a0 a1 x0) X := symX_ok hN (extSym_ok hN)
  exact evalFnR_ok hX trivial hS (drawD3_ok hX trivial) 600
end Go.Proofs.YtemmgompegkgkaaGreatDoor.toplasts.d2w2f
namespace Go.Proofs.YtemmgompegkgkaaGreatDoor.toplasts.d2w3f
open Go Vai
set_option linter.unusedVariables false
set_option linter.unusedSimpArgs false
noncomputable def N : Names := Names.ofL tab
noncomputable def X : Extn := symX Tryz.prog N (extSym Tryz.prog N)
noncomputable def S0 : CallF := (orS (toldS 8 [] (.bool true)) (orS (namedS 9 4096 250 (cn 4098)) (orS (namedS 9 4097 900 (cn 4099)) (orS (toldS 257 pargs1 pres1) (orS (toldS 11 pargs0 pres0) (sumS 175 N crcs))))))
noncomputable def call0 : CallF := evalFnR Tryz.prog X S0 (drawD3 Tryz.prog X) 600
theorem S0_ok (a0 : Int) (a1 : Int) (x0 : Nat) (x1 : Nat) (h0 : 10 ≤ x0 ∧ x0 < 100) (h1 : 601 ≤ x1 ∧ x1 < 900) (w0 : -9223372036854775808 ≤ a0 ∧ a0 ≤ 9223372036854775807) (w1 : -9223372036854775808 ≤ a1 ∧ a1 ≤ 9223372036854775807) (e0 : (a0.tmod 250).natAbs = x0) (e1 : (a1.tmod 900).natAbs = x1) : CallOk Tryz.prog (G a0 a1 x0 x1) S0 := by
  have hN : NamesOk (G a0 a1 x0 x1) N := names_ok a0 a1 x0 x1 h0 h1  w0 w1 
  exact (orS_ok (toldS_ok (named_ok a0 a1 x0 x1) rfl rfl (toldTrue (top.plain_ok _) top.begun_true)) (orS_ok (namedS_ok (named_ok a0 a1 x0 x1) (by decide) (by decide) rfl fun W => (by
    have hh := top.small_calls a0 250 (by decide) (by decide) W w0
    rw [e0] at hh
    rw [gb0 a0 a1 x0 x1, gv_chan 4098, gb2 a0 a1 x0 x1]
    exact hh)) (orS_ok (namedS_ok (named_ok a0 a1 x0 x1) (by decide) (by decide) rfl fun W => (by
    have hh := top.small_calls a1 900 (by decide) (by decide) W w1
    rw [e1] at hh
    rw [gb1 a0 a1 x0 x1, gv_chan 4099, gb3 a0 a1 x0 x1]
    exact hh)) (orS_ok (toldS_ok (named_ok a0 a1 x0 x1) (by kernel_rfl) (by kernel_rfl) (pure1 a0 a1 x0 x1 h0 h1)) (orS_ok (toldS_ok (named_ok a0 a1 x0 x1) (by kernel_rfl) (by kernel_rfl) (pure0 a0 a1 x0 x1 h0 h1)) (sumS_ok hN top.sum_ok (crc_ok a0 a1 x0 x1)))))))
theorem call_ok (a0 : Int) (a1 : Int) (x0 : Nat) (x1 : Nat) (h0 : 10 ≤ x0 ∧ x0 < 100) (h1 : 601 ≤ x1 ∧ x1 < 900) (w0 : -9223372036854775808 ≤ a0 ∧ a0 ≤ 9223372036854775807) (w1 : -9223372036854775808 ≤ a1 ∧ a1 ≤ 9223372036854775807) {S : CallF} (hS : CallOk Tryz.prog (G a0 a1 x0 x1) S) : CallOk Tryz.prog (G a0 a1 x0 x1) (evalFnR Tryz.prog X S (drawD3 Tryz.prog X) 600) := by
  have hN : NamesOk (G a0 a1 x0 x1) N := names_ok a0 a1 x0 x1 h0 h1  w0 w1 
  have hX : ExtOk Tryz.prog (G a0 a1 x0 x1) X := symX_ok hN (extSym_ok hN)
  exact evalFnR_ok hX trivial hS (drawD3_ok hX trivial) 600
end Go.Proofs.YtemmgompegkgkaaGreatDoor.toplasts.d2w3f
namespace Go.Proofs.YtemmgompegkgkaaGreatDoor.toplasts.d3w0f
open Go Vai
set_option linter.unusedVariables false
set_option linter.unusedSimpArgs false
noncomputable def N : Names := Names.ofL tab
noncomputable def X : Extn := symX Tryz.prog N (extSym Tryz.prog N)
noncomputable def S0 : CallF := (orS (toldS 8 [] (.bool true)) (orS (namedS 9 4096 250 (cn 4098)) (orS (namedS 9 4097 900 (jn 0)) (orS (toldS 288 pargs1 pres1) (orS (toldS 11 pargs0 pres0) (sumS 175 N crcs))))))
noncomputable def call0 : CallF := evalFnR Tryz.prog X S0 (drawD3 Tryz.prog X) 600
theorem S0_ok (a0 : Int) (a1 : Int) (x0 : Nat) (h0 : 100 ≤ x0 ∧ x0 < 250) (w0 : -9223372036854775808 ≤ a0 ∧ a0 ≤ 9223372036854775807) (w1 : -9223372036854775808 ≤ a1 ∧ a1 ≤ 9223372036854775807) (e0 : (a0.tmod 250).natAbs = x0) (e1 : (a1.tmod 900).natAbs = 0) : CallOk Tryz.prog (G a0 a1 x0) S0 := by
  have hN : NamesOk (G a0 a1 x0) N := names_ok a0 a1 x0 h0  w0 w1 
  exact (orS_ok (toldS_ok (named_ok a0 a1 x0) rfl rfl (toldTrue (top.plain_ok _) top.begun_true)) (orS_ok (namedS_ok (named_ok a0 a1 x0) (by decide) (by decide) rfl fun W => (by
    have hh := top.small_calls a0 250 (by decide) (by decide) W w0
    rw [e0] at hh
    rw [gb0 a0 a1 x0, gv_chan 4098, gb2 a0 a1 x0]
    exact hh)) (orS_ok (namedS_ok (named_ok a0 a1 x0) (by decide) (by decide) rfl fun W => (by
    have hh := top.small_calls a1 900 (by decide) (by decide) W w1
    rw [e1] at hh
    rw [gb1 a0 a1 x0]
    exact hh)) (orS_ok (toldS_ok (named_ok a0 a1 x0) (by kernel_rfl) (by kernel_rfl) (pure1 a0 a1 x0 h0)) (orS_ok (toldS_ok (named_ok a0 a1 x0) (by kernel_rfl) (by kernel_rfl) (pure0 a0 a1 x0 h0)) (sumS_ok hN top.sum_ok (crc_ok a0 a1 x0)))))))
theorem call_ok (a0 : Int) (a1 : Int) (x0 : Nat) (h0 : 100 ≤ x0 ∧ x0 < 250) (w0 : -9223372036854775808 ≤ a0 ∧ a0 ≤ 9223372036854775807) (w1 : -9223372036854775808 ≤ a1 ∧ a1 ≤ 9223372036854775807) {S : CallF} (hS : CallOk Tryz.prog (G a0 a1 x0) S) : CallOk Tryz.prog (G a0 a1 x0) (evalFnR Tryz.prog X S (drawD3 Tryz.prog X) 600) := by
  have hN : NamesOk (G a0 a1 x0) N := names_ok a0 a1 x0 h0  w0 w1 
  have hX : ExtOk Tryz.prog (G a0 a1 x0) X := symX_ok hN (extSym_ok hN)
  exact evalFnR_ok hX trivial hS (drawD3_ok hX trivial) 600
end Go.Proofs.YtemmgompegkgkaaGreatDoor.toplasts.d3w0f
namespace Go.Proofs.YtemmgompegkgkaaGreatDoor.toplasts.d3w1f
open Go Vai
set_option linter.unusedVariables false
set_option linter.unusedSimpArgs false
noncomputable def N : Names := Names.ofL tab
noncomputable def X : Extn := symX Tryz.prog N (extSym Tryz.prog N)
noncomputable def S0 : CallF := (orS (toldS 8 [] (.bool true)) (orS (namedS 9 4096 250 (cn 4098)) (orS (namedS 9 4097 900 (cn 4099)) (orS (toldS 288 pargs1 pres1) (orS (toldS 11 pargs0 pres0) (sumS 175 N crcs))))))
noncomputable def call0 : CallF := evalFnR Tryz.prog X S0 (drawD3 Tryz.prog X) 600
theorem S0_ok (a0 : Int) (a1 : Int) (x0 : Nat) (x1 : Nat) (h0 : 100 ≤ x0 ∧ x0 < 250) (h1 : 1 ≤ x1 ∧ x1 < 600) (w0 : -9223372036854775808 ≤ a0 ∧ a0 ≤ 9223372036854775807) (w1 : -9223372036854775808 ≤ a1 ∧ a1 ≤ 9223372036854775807) (e0 : (a0.tmod 250).natAbs = x0) (e1 : (a1.tmod 900).natAbs = x1) : CallOk Tryz.prog (G a0 a1 x0 x1) S0 := by
  have hN : NamesOk (G a0 a1 x0 x1) N := names_ok a0 a1 x0 x1 h0 h1  w0 w1 
  exact (orS_ok (toldS_ok (named_ok a0 a1 x0 x1) rfl rfl (toldTrue (top.plain_ok _) top.begun_true)) (orS_ok (namedS_ok (named_ok a0 a1 x0 x1) (by decide) (by decide) rfl fun W => (by
    have hh := top.small_calls a0 250 (by decide) (by decide) W w0
    rw [e0] at hh
    rw [gb0 a0 a1 x0 x1, gv_chan 4098, gb2 a0 a1 x0 x1]
    exact hh)) (orS_ok (namedS_ok (named_ok a0 a1 x0 x1) (by decide) (by decide) rfl fun W => (by
    have hh := top.small_calls a1 900 (by decide) (by decide) W w1
    rw [e1] at hh
    rw [gb1 a0 a1 x0 x1, gv_chan 4099, gb3 a0 a1 x0 x1]
    exact hh)) (orS_ok (toldS_ok (named_ok a0 a1 x0 x1) (by kernel_rfl) (by kernel_rfl) (pure1 a0 a1 x0 x1 h0 h1)) (orS_ok (toldS_ok (named_ok a0 a1 x0 x1) (by kernel_rfl) (by kernel_rfl) (pure0 a0 a1 x0 x1 h0 h1)) (sumS_ok hN top.sum_ok (crc_ok a0 a1 x0 x1)))))))
theorem call_ok (a0 : Int) (a1 : Int) (x0 : Nat) (x1 : Nat) (h0 : 100 ≤ x0 ∧ x0 < 250) (h1 : 1 ≤ x1 ∧ x1 < 600) (w0 : -9223372036854775808 ≤ a0 ∧ a0 ≤ 9223372036854775807) (w1 : -9223372036854775808 ≤ a1 ∧ a1 ≤ 9223372036854775807) {S : CallF} (hS : CallOk Tryz.prog (G a0 a1 x0 x1) S) : CallOk Tryz.prog (G a0 a1 x0 x1) (evalFnR Tryz.prog X S (drawD3 Tryz.prog X) 600) := by
  have hN : NamesOk (G a0 a1 x0 x1) N := names_ok a0 a1 x0 x1 h0 h1  w0 w1 
  have hX : ExtOk Tryz.prog (G a0 a1 x0 x1) X := symX_ok hN (extSym_ok hN)
  exact evalFnR_ok hX trivial hS (drawD3_ok hX trivial) 600
end Go.Proofs.YtemmgompegkgkaaGreatDoor.toplasts.d3w1f
namespace Go.Proofs.YtemmgompegkgkaaGreatDoor.toplasts.d3w2f
open Go Vai
set_option linter.unusedVariables false
set_option linter.unusedSimpArgs false
noncomputable def N : Names := Names.ofL tab
noncomputable def X : Extn := symX Tryz.prog N (extSym Tryz.prog N)
noncomputable def S0 : CallF := (orS (toldS 8 [] (.bool true)) (orS (namedS 9 4096 250 (cn 4098)) (orS (namedS 9 4097 900 (jn 600)) (orS (toldS 288 pargs1 pres1) (orS (toldS 11 pargs0 pres0) (sumS 175 N crcs))))))
noncomputable def call0 : CallF := evalFnR Tryz.prog X S0 (drawD3 Tryz.prog X) 600
theorem S0_ok (a0 : Int) (a1 : Int) (x0 : Nat) (h0 : 100 ≤ x0 ∧ x0 < 250) (w0 : -9223372036854775808 ≤ a0 ∧ a0 ≤ 9223372036854775807) (w1 : -9223372036854775808 ≤ a1 ∧ a1 ≤ 9223372036854775807) (e0 : (a0.tmod 250).natAbs = x0) (e1 : (a1.tmod 900).natAbs = 600) : CallOk Tryz.prog (G a0 a1 x0) S0 := by
  have hN : NamesOk (G a0 a1 x0) N := names_ok a0 a1 x0 h0  w0 w1 
  exact (orS_ok (toldS_ok (named_ok a0 a1 x0) rfl rfl (toldTrue (top.plain_ok _) top.begun_true)) (orS_ok (namedS_ok (named_ok a0 a1 x0) (by decide) (by decide) rfl fun W => (by
    have hh := top.small_calls a0 250 (by decide) (by decide) W w0
    rw [e0] at hh
    rw [gb0 a0 a1 x0, gv_chan 4098, gb2 a0 a1 x0]
    exact hh)) (orS_ok (namedS_ok (named_ok a0 a1 x0) (by decide) (by decide) rfl fun W => (by
    have hh := top.small_calls a1 900 (by decide) (by decide) W w1
    rw [e1] at hh
    rw [gb1 a0 a1 x0]
    exact hh)) (orS_ok (toldS_ok (named_ok a0 a1 x0) (by kernel_rfl) (by kernel_rfl) (pure1 a0 a1 x0 h0)) (orS_ok (toldS_ok (named_ok a0 a1 x0) (by kernel_rfl) (by kernel_rfl) (pure0 a0 a1 x0 h0)) (sumS_ok hN top.sum_ok (crc_ok a0 a1 x0)))))))
theorem call_ok (a0 : Int) (a1 : Int) (x0 : Nat) (h0 : 100 ≤ x0 ∧ x0 < 250) (w0 : -9223372036854775808 ≤ a0 ∧ a0 ≤ 9223372036854775807) (w1 : -9223372036854775808 ≤ a1 ∧ a1 ≤ 9223372036854775807) {S : CallF} (hS : CallOk Tryz.prog (G a0 a1 x0) S) : CallOk Tryz.prog (G a0 a1 x0) (evalFnR Tryz.prog X S (drawD3 Tryz.prog X) 600) := by
  have hN : NamesOk (G a0 a1 x0) N := names_ok a0 a1 x0 h0  w0 w1 
  have hX : ExtOk Tryz.prog (G a0 a1 x0) X := symX_ok hN (extSym_ok hN)
  exact evalFnR_ok hX trivial hS (drawD3_ok hX trivial) 600
end Go.Proofs.YtemmgompegkgkaaGreatDoor.toplasts.d3w2f
namespace Go.Proofs.YtemmgompegkgkaaGreatDoor.toplasts.d3w3f
open Go Vai
set_option linter.unusedVariables false
set_option linter.unusedSimpArgs false
noncomputable def N : Names := Names.ofL tab
noncomputable def X : Extn := symX Tryz.prog N (extSym Tryz.prog N)
noncomputable def S0 : CallF := (orS (toldS 8 [] (.bool true)) (orS (namedS 9 4096 250 (cn 4098)) (orS (namedS 9 4097 900 (cn 4099)) (orS (toldS 288 pargs1 pres1) (orS (toldS 11 pargs0 pres0) (sumS 175 N crcs))))))
noncomputable def call0 : CallF := evalFnR Tryz.prog X S0 (drawD3 Tryz.prog X) 600
theorem S0_ok (a0 : Int) (a1 : Int) (x0 : Nat) (x1 : Nat) (h0 : 100 ≤ x0 ∧ x0 < 250) (h1 : 601 ≤ x1 ∧ x1 < 900) (w0 : -9223372036854775808 ≤ a0 ∧ a0 ≤ 9223372036854775807) (w1 : -9223372036854775808 ≤ a1 ∧ a1 ≤ 9223372036854775807) (e0 : (a0.tmod 250).natAbs = x0) (e1 : (a1.tmod 900).natAbs = x1) : CallOk Tryz.prog (G a0 a1 x0 x1) S0 := by
  have hN : NamesOk (G a0 a1 x0 x1) N := names_ok a0 a1 x0 x1 h0 h1  w0 w1 
  exact (orS_ok (toldS_ok (named_ok a0 a1 x0 x1) rfl rfl (toldTrue (top.plain_ok _) top.begun_true)) (orS_ok (namedS_ok (named_ok a0 a1 x0 x1) (by decide) (by decide) rfl fun W => (by
    have hh := top.small_calls a0 250 (by decide) (by decide) W w0
    rw [e0] at hh
    rw [gb0 a0 a1 x0 x1, gv_chan 4098, gb2 a0 a1 x0 x1]
    exact hh)) (orS_ok (namedS_ok (named_ok a0 a1 x0 x1) (by decide) (by decide) rfl fun W => (by
    have hh := top.small_calls a1 900 (by decide) (by decide) W w1
    rw [e1] at hh
    rw [gb1 a0 a1 x0 x1, gv_chan 4099, gb3 a0 a1 x0 x1]
    exact hh)) (orS_ok (toldS_ok (named_ok a0 a1 x0 x1) (by kernel_rfl) (by kernel_rfl) (pure1 a0 a1 x0 x1 h0 h1)) (orS_ok (toldS_ok (named_ok a0 a1 x0 x1) (by kernel_rfl) (by kernel_rfl) (pure0 a0 a1 x0 x1 h0 h1)) (sumS_ok hN top.sum_ok (crc_ok a0 a1 x0 x1)))))))
theorem call_ok (a0 : Int) (a1 : Int) (x0 : Nat) (x1 : Nat) (h0 : 100 ≤ x0 ∧ x0 < 250) (h1 : 601 ≤ x1 ∧ x1 < 900) (w0 : -9223372036854775808 ≤ a0 ∧ a0 ≤ 9223372036854775807) (w1 : -9223372036854775808 ≤ a1 ∧ a1 ≤ 9223372036854775807) {S : CallF} (hS : CallOk Tryz.prog (G a0 a1 x0 x1) S) : CallOk Tryz.prog (G a0 a1 x0 x1) (evalFnR Tryz.prog X S (drawD3 Tryz.prog X) 600) := by
  have hN : NamesOk (G a0 a1 x0 x1) N := names_ok a0 a1 x0 x1 h0 h1  w0 w1 
  have hX : ExtOk Tryz.prog (G a0 a1 x0 x1) X := symX_ok hN (extSym_ok hN)
  exact evalFnR_ok hX trivial hS (drawD3_ok hX trivial) 600
end Go.Proofs.YtemmgompegkgkaaGreatDoor.toplasts.d3w3f
namespace Go.Proofs.YtemmgompegkgkaaGreatDoor.toplasts.d1w0t
open Go Vai
set_option linter.unusedVariables false
set_option linter.unusedSimpArgs false
noncomputable def N : Names := Names.ofL tab
noncomputable def X : Extn := symX Tryz.prog N (extSym Tryz.prog N)
noncomputable def S0 : CallF := (orS (toldS 8 [] (.bool true)) (orS (namedS 9 4096 250 (cn 4098)) (orS (namedS 9 4097 900 (jn 0)) (orS (toldS 257 pargs1 pres1) (orS (toldS 11 pargs0 pres0) (sumS 175 N crcs))))))
noncomputable def call0 : CallF := evalFnR Tryz.prog X S0 (drawD3 Tryz.prog X) 600
theorem S0_ok (a0 : Int) (a1 : Int) (x0 : Nat) (h0 : 0 ≤ x0 ∧ x0 < 10) (w0 : -9223372036854775808 ≤ a0 ∧ a0 ≤ 9223372036854775807) (w1 : -9223372036854775808 ≤ a1 ∧ a1 ≤ 9223372036854775807) (e0 : (a0.tmod 250).natAbs = x0) (e1 : (a1.tmod 900).natAbs = 0) : CallOk Tryz.prog (G a0 a1 x0) S0 := by
  have hN : NamesOk (G a0 a1 x0) N := names_ok a0 a1 x0 h0  w0 w1 
  exact (orS_ok (toldS_ok (named_ok a0 a1 x0) rfl rfl (toldTrue (top.plain_ok _) top.begun_true)) (orS_ok (namedS_ok (named_ok a0 a1 x0) (by decide) (by decide) rfl fun W => (by
    have hh := top.small_calls a0 250 (by decide) (by decide) W w0
    rw [e0] at hh
    rw [gb0 a0 a1 x0, gv_chan 4098, gb2 a0 a1 x0]
    exact hh)) (orS_ok (namedS_ok (named_ok a0 a1 x0) (by decide) (by decide) rfl fun W => (by
    have hh := top.small_calls a1 900 (by decide) (by decide) W w1
    rw [e1] at hh
    rw [gb1 a0 a1 x0]
    exact hh)) (orS_ok (toldS_ok (named_ok a0 a1 x0) (by kernel_rfl) (by kernel_rfl) (pure1 a0 a1 x0 h0)) (orS_ok (toldS_ok (named_ok a0 a1 x0) (by kernel_rfl) (by kernel_rfl) (pure0 a0 a1 x0 h0)) (sumS_ok hN top.sum_ok (crc_ok a0 a1 x0)))))))
theorem call_ok (a0 : Int) (a1 : Int) (x0 : Nat) (h0 : 0 ≤ x0 ∧ x0 < 10) (w0 : -9223372036854775808 ≤ a0 ∧ a0 ≤ 9223372036854775807) (w1 : -9223372036854775808 ≤ a1 ∧ a1 ≤ 9223372036854775807) {S : CallF} (hS : CallOk Tryz.prog (G a0 a1 x0) S) : CallOk Tryz.prog (G a0 a1 x0) (evalFnR Tryz.prog X S (drawD3 Tryz.prog X) 600) := by
  have hN : NamesOk (G a0 a1 x0) N := names_ok a0 a1 x0 h0  w0 w1 
  have hX : ExtOk Tryz.prog (G a0 a1 x0) X := symX_ok hN (extSym_ok hN)
  exact evalFnR_ok hX trivial hS (drawD3_ok hX trivial) 600
end Go.Proofs.YtemmgompegkgkaaGreatDoor.toplasts.d1w0t
namespace Go.Proofs.YtemmgompegkgkaaGreatDoor.toplasts.d1w1t
open Go Vai
set_option linter.unusedVariables false
set_option linter.unusedSimpArgs false
noncomputable def N : Names := Names.ofL tab
noncomputable def X : Extn := symX Tryz.prog N (extSym Tryz.prog N)
noncomputable def S0 : CallF := (orS (toldS 8 [] (.bool true)) (orS (namedS 9 4096 250 (cn 4098)) (orS (namedS 9 4097 900 (cn 4099)) (orS (toldS 257 pargs1 pres1) (orS (toldS 11 pargs0 pres0) (sumS 175 N crcs))))))
noncomputable def call0 : CallF := evalFnR Tryz.prog X S0 (drawD3 Tryz.prog X) 600
theorem S0_ok (a0 : Int) (a1 : Int) (x0 : Nat) (x1 : Nat) (h0 : 0 ≤ x0 ∧ x0 < 10) (h1 : 1 ≤ x1 ∧ x1 < 600) (w0 : -9223372036854775808 ≤ a0 ∧ a0 ≤ 9223372036854775807) (w1 : -9223372036854775808 ≤ a1 ∧ a1 ≤ 9223372036854775807) (e0 : (a0.tmod 250).natAbs = x0) (e1 : (a1.tmod 900).natAbs = x1) : CallOk Tryz.prog (G a0 a1 x0 x1) S0 := by
  have hN : NamesOk (G a0 a1 x0 x1) N := names_ok a0 a1 x0 x1 h0 h1  w0 w1 
  exact (orS_ok (toldS_ok (named_ok a0 a1 x0 x1) rfl rfl (toldTrue (top.plain_ok _) top.begun_true)) (orS_ok (namedS_ok (named_ok a0 a1 x0 x1) (by decide) (by decide) rfl fun W => (by
    have hh := top.small_calls a0 250 (by decide) (by decide) W w0
    rw [e0] at hh
    rw [gb0 a0 a1 x0 x1, gv_chan 4098, gb2 a0 a1 x0 x1]
    exact hh)) (orS_ok (namedS_ok (named_ok a0 a1 x0 x1) (by decide) (by decide) rfl fun W => (by
    have hh := top.small_calls a1 900 (by decide) (by decide) W w1
    rw [e1] at hh
    rw [gb1 a0 a1 x0 x1, gv_chan 4099, gb3 a0 a1 x0 x1]
    exact hh)) (orS_ok (toldS_ok (named_ok a0 a1 x0 x1) (by kernel_rfl) (by kernel_rfl) (pure1 a0 a1 x0 x1 h0 h1)) (orS_ok (toldS_ok (named_ok a0 a1 x0 x1) (by kernel_rfl) (by kernel_rfl) (pure0 a0 a1 x0 x1 h0 h1)) (sumS_ok hN top.sum_ok (crc_ok a0 a1 x0 x1)))))))
theorem call_ok (a0 : Int) (a1 : Int) (x0 : Nat) (x1 : Nat) (h0 : 0 ≤ x0 ∧ x0 < 10) (h1 : 1 ≤ x1 ∧ x1 < 600) (w0 : -9223372036854775808 ≤ a0 ∧ a0 ≤ 9223372036854775807) (w1 : -9223372036854775808 ≤ a1 ∧ a1 ≤ 9223372036854775807) {S : CallF} (hS : CallOk Tryz.prog (G a0 a1 x0 x1) S) : CallOk Tryz.prog (G a0 a1 x0 x1) (evalFnR Tryz.prog X S (drawD3 Tryz.prog X) 600) := by
  have hN : NamesOk (G a0 a1 x0 x1) N := names_ok a0 a1 x0 x1 h0 h1  w0 w1 
  have hX : ExtOk Tryz.prog (G a0 a1 x0 x1) X := symX_ok hN (extSym_ok hN)
  exact evalFnR_ok hX trivial hS (drawD3_ok hX trivial) 600
end Go.Proofs.YtemmgompegkgkaaGreatDoor.toplasts.d1w1t
namespace Go.Proofs.YtemmgompegkgkaaGreatDoor.toplasts.d1w2t
open Go Vai
set_option linter.unusedVariables false
set_option linter.unusedSimpArgs false
noncomputable def N : Names := Names.ofL tab
noncomputable def X : Extn := symX Tryz.prog N (extSym Tryz.prog N)
noncomputable def S0 : CallF := (orS (toldS 8 [] (.bool true)) (orS (namedS 9 4096 250 (cn 4098)) (orS (namedS 9 4097 900 (jn 600)) (orS (toldS 257 pargs1 pres1) (orS (toldS 11 pargs0 pres0) (sumS 175 N crcs))))))
noncomputable def call0 : CallF := evalFnR Tryz.prog X S0 (drawD3 Tryz.prog X) 600
theorem S0_ok (a0 : Int) (a1 : Int) (x0 : Nat) (h0 : 0 ≤ x0 ∧ x0 < 10) (w0 : -9223372036854775808 ≤ a0 ∧ a0 ≤ 9223372036854775807) (w1 : -9223372036854775808 ≤ a1 ∧ a1 ≤ 9223372036854775807) (e0 : (a0.tmod 250).natAbs = x0) (e1 : (a1.tmod 900).natAbs = 600) : CallOk Tryz.prog (G a0 a1 x0) S0 := by
  have hN : NamesOk (G a0 a1 x0) N := names_ok a0 a1 x0 h0  w0 w1 
  exact (orS_ok (toldS_ok (named_ok a0 a1 x0) rfl rfl (toldTrue (top.plain_ok _) top.begun_true)) (orS_ok (namedS_ok (named_ok a0 a1 x0) (by decide) (by decide) rfl fun W => (by
    have hh := top.small_calls a0 250 (by decide) (by decide) W w0
    rw [e0] at hh
    rw [gb0 a0 a1 x0, gv_chan 4098, gb2 a0 a1 x0]
    exact hh)) (orS_ok (namedS_ok (named_ok a0 a1 x0) (by decide) (by decide) rfl fun W => (by
    have hh := top.small_calls a1 900 (by decide) (by decide) W w1
    rw [e1] at hh
    rw [gb1 a0 a1 x0]
    exact hh)) (orS_ok (toldS_ok (named_ok a0 a1 x0) (by kernel_rfl) (by kernel_rfl) (pure1 a0 a1 x0 h0)) (orS_ok (toldS_ok (named_ok a0 a1 x0) (by kernel_rfl) (by kernel_rfl) (pure0 a0 a1 x0 h0)) (sumS_ok hN top.sum_ok (crc_ok a0 a1 x0)))))))
theorem call_ok (a0 : Int) (a1 : Int) (x0 : Nat) (h0 : 0 ≤ x0 ∧ x0 < 10) (w0 : -9223372036854775808 ≤ a0 ∧ a0 ≤ 9223372036854775807) (w1 : -9223372036854775808 ≤ a1 ∧ a1 ≤ 9223372036854775807) {S : CallF} (hS : CallOk Tryz.prog (G a0 a1 x0) S) : CallOk Tryz.prog (G a0 a1 x0) (evalFnR Tryz.prog X S (drawD3 Tryz.prog X) 600) := by
  have hN : NamesOk (G a0 a1 x0) N := names_ok a0 a1 x0 h0  w0 w1 
  have hX : ExtOk Tryz.prog (G a0 a1 x0) X := symX_ok hN (extSym_ok hN)
  exact evalFnR_ok hX trivial hS (drawD3_ok hX trivial) 600
end Go.Proofs.YtemmgompegkgkaaGreatDoor.toplasts.d1w2t
namespace Go.Proofs.YtemmgompegkgkaaGreatDoor.toplasts.d1w3t
open Go Vai
set_option linter.unusedVariables false
set_option linter.unusedSimpArgs false
noncomputable def N : Names := Names.ofL tab
noncomputable def X : Extn := symX Tryz.prog N (extSym Tryz.prog N)
noncomputable def S0 : CallF := (orS (toldS 8 [] (.bool true)) (orS (namedS 9 4096 250 (cn 4098)) (orS (namedS 9 4097 900 (cn 4099)) (orS (toldS 257 pargs1 pres1) (orS (toldS 11 pargs0 pres0) (sumS 175 N crcs))))))
noncomputable def call0 : CallF := evalFnR Tryz.prog X S0 (drawD3 Tryz.prog X) 600
theorem S0_ok (a0 : Int) (a1 : Int) (x0 : Nat) (x1 : Nat) (h0 : 0 ≤ x0 ∧ x0 < 10) (h1 : 601 ≤ x1 ∧ x1 < 900) (w0 : -9223372036854775808 ≤ a0 ∧ a0 ≤ 9223372036854775807) (w1 : -9223372036854775808 ≤ a1 ∧ a1 ≤ 9223372036854775807) (e0 : (a0.tmod 250).natAbs = x0) (e1 : (a1.tmod 900).natAbs = x1) : CallOk Tryz.prog (G a0 a1 x0 x1) S0 := by
  have hN : NamesOk (G a0 a1 x0 x1) N := names_ok a0 a1 x0 x1 h0 h1  w0 w1 
  exact (orS_ok (toldS_ok (named_ok a0 a1 x0 x1) rfl rfl (toldTrue (top.plain_ok _) top.begun_true)) (orS_ok (namedS_ok (named_ok a0 a1 x0 x1) (by decide) (by decide) rfl fun W => (by
    have hh := top.small_calls a0 250 (by decide) (by decide) W w0
    rw [e0] at hh
    rw [gb0 a0 a1 x0 x1, gv_chan 4098, gb2 a0 a1 x0 x1]
    exact hh)) (orS_ok (namedS_ok (named_ok a0 a1 x0 x1) (by decide) (by decide) rfl fun W => (by
    have hh := top.small_calls a1 900 (by decide) (by decide) W w1
    rw [e1] at hh
    rw [gb1 a0 a1 x0 x1, gv_chan 4099, gb3 a0 a1 x0 x1]
    exact hh)) (orS_ok (toldS_ok (named_ok a0 a1 x0 x1) (by kernel_rfl) (by kernel_rfl) (pure1 a0 a1 x0 x1 h0 h1)) (orS_ok (toldS_ok (named_ok a0 a1 x0 x1) (by kernel_rfl) (by kernel_rfl) (pure0 a0 a1 x0 x1 h0 h1)) (sumS_ok hN top.sum_ok (crc_ok a0 a1 x0 x1)))))))
theorem call_ok (a0 : Int) (a1 : Int) (x0 : Nat) (x1 : Nat) (h0 : 0 ≤ x0 ∧ x0 < 10) (h1 : 601 ≤ x1 ∧ x1 < 900) (w0 : -9223372036854775808 ≤ a0 ∧ a0 ≤ 9223372036854775807) (w1 : -9223372036854775808 ≤ a1 ∧ a1 ≤ 9223372036854775807) {S : CallF} (hS : CallOk Tryz.prog (G a0 a1 x0 x1) S) : CallOk Tryz.prog (G a0 a1 x0 x1) (evalFnR Tryz.prog X S (drawD3 Tryz.prog X) 600) := by
  have hN : NamesOk (G a0 a1 x0 x1) N := names_ok a0 a1 x0 x1 h0 h1  w0 w1 
  have hX : ExtOk Tryz.prog (G a0 a1 x0 x1) X := symX_ok hN (extSym_ok hN)
  exact evalFnR_ok hX trivial hS (drawD3_ok hX trivial) 600
end Go.Proofs.YtemmgompegkgkaaGreatDoor.toplasts.d1w3t
namespace Go.Proofs.YtemmgompegkgkaaGreatDoor.toplasts.d2w0t
open Go Vai
set_option linter.unusedVariables false
set_option linter.unusedSimpArgs false
noncomputable def N : Names := Names.ofL tab
noncomputable def X : Extn := symX Tryz.prog N (extSym Tryz.prog N)
noncomputable def S0 : CallF := (orS (toldS 8 [] (.bool true)) (orS (namedS 9 4096 250 (cn 4098)) (orS (namedS 9 4097 900 (jn 0)) (orS (toldS 257 pargs1 pres1) (orS (toldS 11 pargs0 pres0) (sumS 175 N crcs))))))
noncomputable def call0 : CallF := evalFnR Tryz.prog X S0 (drawD3 Tryz.prog X) 600
theorem S0_ok (a0 : Int) (a1 : Int) (x0 : Nat) (h0 : 10 ≤ x0 ∧ x0 < 100) (w0 : -9223372036854775808 ≤ a0 ∧ a0 ≤ 9223372036854775807) (w1 : -9223372036854775808 ≤ a1 ∧ a1 ≤ 9223372036854775807) (e0 : (a0.tmod 250).natAbs = x0) (e1 : (a1.tmod 900).natAbs = 0) : CallOk Tryz.prog (G a0 a1 x0) S0 := by
  have hN : NamesOk (G a0 a1 x0) N := names_ok a0 a1 x0 h0  w0 w1 
  exact (orS_ok (toldS_ok (named_ok a0 a1 x0) rfl rfl (toldTrue (top.plain_ok _) top.begun_true)) (orS_ok (namedS_ok (named_ok a0 a1 x0) (by decide) (by decide) rfl fun W => (by
    have hh := top.small_calls a0 250 (by decide) (by decide) W w0
    rw [e0] at hh
    rw [gb0 a0 a1 x0, gv_chan 4098, gb2 a0 a1 x0]
    exact hh)) (orS_ok (namedS_ok (named_ok a0 a1 x0) (by decide) (by decide) rfl fun W => (by
    have hh := top.small_calls a1 900 (by decide) (by decide) W w1
    rw [e1] at hh
    rw [gb1 a0 a1 x0]
    exact hh)) (orS_ok (toldS_ok (named_ok a0 a1 x0) (by kernel_rfl) (by kernel_rfl) (pure1 a0 a1 x0 h0)) (orS_ok (toldS_ok (named_ok a0 a1 x0) (by kernel_rfl) (by kernel_rfl) (pure0 a0 a1 x0 h0)) (sumS_ok hN top.sum_ok (crc_ok a0 a1 x0)))))))
theorem call_ok (a0 : Int) (a1 : Int) (x0 : Nat) (h0 : 10 ≤ x0 ∧ x0 < 100) (w0 : -9223372036854775808 ≤ a0 ∧ a0 ≤ 9223372036854775807) (w1 : -9223372036854775808 ≤ a1 ∧ a1 ≤ 9223372036854775807) {S : CallF} (hS : CallOk Tryz.prog (G a0 a1 x0) S) : CallOk Tryz.prog (G a0 a1 x0) (evalFnR Tryz.prog X S (drawD3 Tryz.prog X) 600) := by
  have hN : NamesOk (G a0 a1 x0) N := names_ok a0 a1 x0 h0  w0 w1 
  have hX : ExtOk Tryz.prog (G a0 a1 x0) X := symX_ok hN (extSym_ok hN)
  exact evalFnR_ok hX trivial hS (drawD3_ok hX trivial) 600
end Go.Proofs.YtemmgompegkgkaaGreatDoor.toplasts.d2w0t
namespace Go.Proofs.YtemmgompegkgkaaGreatDoor.toplasts.d2w1t
open Go Vai
set_option linter.unusedVariables false
set_option linter.unusedSimpArgs false
noncomputable def N : Names := Names.ofL tab
noncomputable def X : Extn := symX Tryz.prog N (extSym Tryz.prog N)
noncomputable def S0 : CallF := (orS (toldS 8 [] (.bool true)) (orS (namedS 9 4096 250 (cn 4098)) (orS (namedS 9 4097 900 (cn 4099)) (orS (toldS 257 pargs1 pres1) (orS (toldS 11 pargs0 pres0) (sumS 175 N crcs))))))
noncomputable def call0 : CallF := evalFnR Tryz.prog X S0 (drawD3 Tryz.prog X) 600
theorem S0_ok (a0 : Int) (a1 : Int) (x0 : Nat) (x1 : Nat) (h0 : 10 ≤ x0 ∧ x0 < 100) (h1 : 1 ≤ x1 ∧ x1 < 600) (w0 : -9223372036854775808 ≤ a0 ∧ a0 ≤ 9223372036854775807) (w1 : -9223372036854775808 ≤ a1 ∧ a1 ≤ 9223372036854775807) (e0 : (a0.tmod 250).natAbs = x0) (e1 : (a1.tmod 900).natAbs = x1) : CallOk Tryz.prog (G a0 a1 x0 x1) S0 := by
  have hN : NamesOk (G a0 a1 x0 x1) N := names_ok a0 a1 x0 x1 h0 h1  w0 w1 
  exact (orS_ok (toldS_ok (named_ok a0 a1 x0 x1) rfl rfl (toldTrue (top.plain_ok _) top.begun_true)) (orS_ok (namedS_ok (named_ok a0 a1 x0 x1) (by decide) (by decide) rfl fun W => (by
    have hh := top.small_calls a0 250 (by decide) (by decide) W w0
    rw [e0] at hh
    rw [gb0 a0 a1 x0 x1, gv_chan 4098, gb2 a0 a1 x0 x1]
    exact hh)) (orS_ok (namedS_ok (named_ok a0 a1 x0 x1) (by decide) (by decide) rfl fun W => (by
    have hh := top.small_calls a1 900 (by decide) (by decide) W w1
    rw [e1] at hh
    rw [gb1 a0 a1 x0 x1, gv_chan 4099, gb3 a0 a1 x0 x1]
    exact hh)) (orS_ok (toldS_ok (named_ok a0 a1 x0 x1) (by kernel_rfl) (by kernel_rfl) (pure1 a0 a1 x0 x1 h0 h1)) (orS_ok (toldS_ok (named_ok a0 a1 x0 x1) (by kernel_rfl) (by kernel_rfl) (pure0 a0 a1 x0 x1 h0 h1)) (sumS_ok hN top.sum_ok (crc_ok a0 a1 x0 x1)))))))
theorem call_ok (a0 : Int) (a1 : Int) (x0 : Nat) (x1 : Nat) (h0 : 10 ≤ x0 ∧ x0 < 100) (h1 : 1 ≤ x1 ∧ x1 < 600) (w0 : -9223372036854775808 ≤ a0 ∧ a0 ≤ 9223372036854775807) (w1 : -9223372036854775808 ≤ a1 ∧ a1 ≤ 9223372036854775807) {S : CallF} (hS : CallOk Tryz.prog (G a0 a1 x0 x1) S) : CallOk Tryz.prog (G a0 a1 x0 x1) (evalFnR Tryz.prog X S (drawD3 Tryz.prog X) 600) := by
  have hN : NamesOk (G a0 a1 x0 x1) N := names_ok a0 a1 x0 x1 h0 h1  w0 w1 
  have hX : ExtOk Tryz.prog (G a0 a1 x0 x1) X := symX_ok hN (extSym_ok hN)
  exact evalFnR_ok hX trivial hS (drawD3_ok hX trivial) 600
end Go.Proofs.YtemmgompegkgkaaGreatDoor.toplasts.d2w1t
namespace Go.Proofs.YtemmgompegkgkaaGreatDoor.toplasts.d2w2t
open Go Vai
set_option linter.unusedVariables false
set_option linter.unusedSimpArgs false
noncomputable def N : Names := Names.ofL tab
noncomputable def X : Extn := symX Tryz.prog N (extSym Tryz.prog N)
noncomputable def S0 : CallF := (orS (toldS 8 [] (.bool true)) (orS (namedS 9 4096 250 (cn 4098)) (orS (namedS 9 4097 900 (jn 600)) (orS (toldS 257 pargs1 pres1) (orS (toldS 11 pargs0 pres0) (sumS 175 N crcs))))))
noncomputable def call0 : CallF := evalFnR Tryz.prog X S0 (drawD3 Tryz.prog X) 600
theorem S0_ok (a0 : Int) (a1 : Int) (x0 : Nat) (h0 : 10 ≤ x0 ∧ x0 < 100) (w0 : -9223372036854775808 ≤ a0 ∧ a0 ≤ 9223372036854775807) (w1 : -9223372036854775808 ≤ a1 ∧ a1 ≤ 9223372036854775807) (e0 : (a0.tmod 250).natAbs = x0) (e1 : (a1.tmod 900).natAbs = 600) : CallOk Tryz.prog (G a0 a1 x0) S0 := by
  have hN : NamesOk (G a0 a1 x0) N := names_ok a0 a1 x0 h0  w0 w1 
  exact (orS_ok (toldS_ok (named_ok a0 a1 x0) rfl rfl (toldTrue (top.plain_ok _) top.begun_true)) (orS_ok (namedS_ok (named_ok a0 a1 x0) (by decide) (by decide) rfl fun W => (by
    have hh := top.small_calls a0 250 (by decide) (by decide) W w0
    rw [e0] at hh
    rw [gb0 a0 a1 x0, gv_chan 4098, gb2 a0 a1 x0]
    exact hh)) (orS_ok (namedS_ok (named_ok a0 a1 x0) (by decide) (by decide) rfl fun W => (by
    have hh := top.small_calls a1 900 (by decide) (by decide) W w1
    rw [e1] at hh
    rw [gb1 a0 a1 x0]
    exact hh)) (orS_ok (toldS_ok (named_ok a0 a1 x0) (by kernel_rfl) (by kernel_rfl) (pure1 a0 a1 x0 h0)) (orS_ok (toldS_ok (named_ok a0 a1 x0) (by kernel_rfl) (by kernel_rfl) (pure0 a0 a1 x0 h0)) (sumS_ok hN top.sum_ok (crc_ok a0 a1 x0)))))))
theorem call_ok (a0 : Int) (a1 : Int) (x0 : Nat) (h0 : 10 ≤ x0 ∧ x0 < 100) (w0 : -9223372036854775808 ≤ a0 ∧ a0 ≤ 9223372036854775807) (w1 : -9223372036854775808 ≤ a1 ∧ a1 ≤ 9223372036854775807) {S : CallF} (hS : CallOk Tryz.prog (G a0 a1 x0) S) : CallOk Tryz.prog (G a0 a1 x0) (evalFnR Tryz.prog X S (drawD3 Tryz.prog X) 600) := by
  have hN : NamesOk (G a0 a1 x0) N := names_ok a0 a1 x0 h0  w0 w1 
  have hX : ExtOk Tryz.prog (G a0 a1 x0) X := symX_ok hN (extSym_ok hN)
  exact evalFnR_ok hX trivial hS (drawD3_ok hX trivial) 600
end Go.Proofs.YtemmgompegkgkaaGreatDoor.toplasts.d2w2t
namespace Go.Proofs.YtemmgompegkgkaaGreatDoor.toplasts.d2w3t
open Go Vai
set_option linter.unusedVariables false
set_option linter.unusedSimpArgs false
noncomputable def N : Names := Names.ofL tab
noncomputable def X : Extn := symX Tryz.prog N (extSym Tryz.prog N)
noncomputable def S0 : CallF := (orS (toldS 8 [] (.bool true)) (orS (namedS 9 4096 250 (cn 4098)) (orS (namedS 9 4097 900 (cn 4099)) (orS (toldS 257 pargs1 pres1) (orS (toldS 11 pargs0 pres0) (sumS 175 N crcs))))))
noncomputable def call0 : CallF := evalFnR Tryz.prog X S0 (drawD3 Tryz.prog X) 600
theorem S0_ok (a0 : Int) (a1 : Int) (x0 : Nat) (x1 : Nat) (h0 : 10 ≤ x0 ∧ x0 < 100) (h1 : 601 ≤ x1 ∧ x1 < 900) (w0 : -9223372036854775808 ≤ a0 ∧ a0 ≤ 9223372036854775807) (w1 : -9223372036854775808 ≤ a1 ∧ a1 ≤ 9223372036854775807) (e0 : (a0.tmod 250).natAbs = x0) (e1 : (a1.tmod 900).natAbs = x1) : CallOk Tryz.prog (G a0 a1 x0 x1) S0 := by
  have hN : NamesOk (G a0 a1 x0 x1) N := names_ok a0 a1 x0 x1 h0 h1  w0 w1 
  exact (orS_ok (toldS_ok (named_ok a0 a1 x0 x1) rfl rfl (toldTrue (top.plain_ok _) top.begun_true)) (orS_ok (namedS_ok (named_ok a0 a1 x0 x1) (by decide) (by decide) rfl fun W => (by
    have hh := top.small_calls a0 250 (by decide) (by decide) W w0
    rw [e0] at hh
    rw [gb0 a0 a1 x0 x1, gv_chan 4098, gb2 a0 a1 x0 x1]
    exact hh)) (orS_ok (namedS_ok (named_ok a0 a1 x0 x1) (by decide) (by decide) rfl fun W => (by
    have hh := top.small_calls a1 900 (by decide) (by decide) W w1
    rw [e1] at hh
    rw [gb1 a0 a1 x0 x1, gv_chan 4099, gb3 a0 a1 x0 x1]
    exact hh)) (orS_ok (toldS_ok (named_ok a0 a1 x0 x1) (by kernel_rfl) (by kernel_rfl) (pure1 a0 a1 x0 x1 h0 h1)) (orS_ok (toldS_ok (named_ok a0 a1 x0 x1) (by kernel_rfl) (by kernel_rfl) (pure0 a0 a1 x0 x1 h0 h1)) (sumS_ok hN top.sum_ok (crc_ok a0 a1 x0 x1)))))))
theorem call_ok (a0 : Int) (a1 : Int) (x0 : Nat) (x1 : Nat) (h0 : 10 ≤ x0 ∧ x0 < 100) (h1 : 601 ≤ x1 ∧ x1 < 900) (w0 : -9223372036854775808 ≤ a0 ∧ a0 ≤ 9223372036854775807) (w1 : -9223372036854775808 ≤ a1 ∧ a1 ≤ 9223372036854775807) {S : CallF} (hS : CallOk Tryz.prog (G a0 a1 x0 x1) S) : CallOk Tryz.prog (G a0 a1 x0 x1) (evalFnR Tryz.prog X S (drawD3 Tryz.prog X) 600) := by
  have hN : NamesOk (G a0 a1 x0 x1) N := names_ok a0 a1 x0 x1 h0 h1  w0 w1 
  have hX : ExtOk Tryz.prog (G a0 a1 x0 x1) X := symX_ok hN (extSym_ok hN)
  exact evalFnR_ok hX trivial hS (drawD3_ok hX trivial) 600
end Go.Proofs.YtemmgompegkgkaaGreatDoor.toplasts.d2w3t
namespace Go.Proofs.YtemmgompegkgkaaGreatDoor.toplasts.d3w0t
open Go Vai
set_option linter.unusedVariables false
set_option linter.unusedSimpArgs false
noncomputable def N : Names := Names.ofL tab
noncomputable def X : Extn := symX Tryz.prog N (extSym Tryz.prog N)
noncomputable def S0 : CallF := (orS (toldS 8 [] (.bool true)) (orS (namedS 9 4096 250 (cn 4098)) (orS (namedS 9 4097 900 (jn 0)) (orS (toldS 288 pargs1 pres1) (orS (toldS 11 pargs0 pres0) (sumS 175 N crcs))))))
noncomputable def call0 : CallF := evalFnR Tryz.prog X S0 (drawD3 Tryz.prog X) 600
theorem S0_ok (a0 : Int) (a1 : Int) (x0 : Nat) (h0 : 100 ≤ x0 ∧ x0 < 250) (w0 : -9223372036854775808 ≤ a0 ∧ a0 ≤ 9223372036854775807) (w1 : -9223372036854775808 ≤ a1 ∧ a1 ≤ 9223372036854775807) (e0 : (a0.tmod 250).natAbs = x0) (e1 : (a1.tmod 900).natAbs = 0) : CallOk Tryz.prog (G a0 a1 x0) S0 := by
  have hN : NamesOk (G a0 a1 x0) N := names_ok a0 a1 x0 h0  w0 w1 
  exact (orS_ok (toldS_ok (named_ok a0 a1 x0) rfl rfl (toldTrue (top.plain_ok _) top.begun_true)) (orS_ok (namedS_ok (named_ok a0 a1 x0) (by decide) (by decide) rfl fun W => (by
    have hh := top.small_calls a0 250 (by decide) (by decide) W w0
    rw [e0] at hh
    rw [gb0 a0 a1 x0, gv_chan 4098, gb2 a0 a1 x0]
    exact hh)) (orS_ok (namedS_ok (named_ok a0 a1 x0) (by decide) (by decide) rfl fun W => (by
    have hh := top.small_calls a1 900 (by decide) (by decide) W w1
    rw [e1] at hh
    rw [gb1 a0 a1 x0]
    exact hh)) (orS_ok (toldS_ok (named_ok a0 a1 x0) (by kernel_rfl) (by kernel_rfl) (pure1 a0 a1 x0 h0)) (orS_ok (toldS_ok (named_ok a0 a1 x0) (by kernel_rfl) (by kernel_rfl) (pure0 a0 a1 x0 h0)) (sumS_ok hN top.sum_ok (crc_ok a0 a1 x0)))))))
theorem call_ok (a0 : Int) (a1 : Int) (x0 : Nat) (h0 : 100 ≤ x0 ∧ x0 < 250) (w0 : -9223372036854775808 ≤ a0 ∧ a0 ≤ 9223372036854775807) (w1 : -9223372036854775808 ≤ a1 ∧ a1 ≤ 9223372036854775807) {S : CallF} (hS : CallOk Tryz.prog (G a0 a1 x0) S) : CallOk Tryz.prog (G a0 a1 x0) (evalFnR Tryz.prog X S (drawD3 Tryz.prog X) 600) := by
  have hN : NamesOk (G a0 a1 x0) N := names_ok a0 a1 x0 h0  w0 w1 
  have hX : ExtOk Tryz.prog (G a0 a1 x0) X := symX_ok hN (extSym_ok hN)
  exact evalFnR_ok hX trivial hS (drawD3_ok hX trivial) 600
end Go.Proofs.YtemmgompegkgkaaGreatDoor.toplasts.d3w0t
namespace Go.Proofs.YtemmgompegkgkaaGreatDoor.toplasts.d3w1t
open Go Vai
set_option linter.unusedVariables false
set_option linter.unusedSimpArgs false
noncomputable def N : Names := Names.ofL tab
noncomputable def X : Extn := symX Tryz.prog N (extSym Tryz.prog N)
noncomputable def S0 : CallF := (orS (toldS 8 [] (.bool true)) (orS (namedS 9 4096 250 (cn 4098)) (orS (namedS 9 4097 900 (cn 4099)) (orS (toldS 288 pargs1 pres1) (orS (toldS 11 pargs0 pres0) (sumS 175 N crcs))))))
noncomputable def call0 : CallF := evalFnR Tryz.prog X S0 (drawD3 Tryz.prog X) 600
theorem S0_ok (a0 : Int) (a1 : Int) (x0 : Nat) (x1 : Nat) (h0 : 100 ≤ x0 ∧ x0 < 250) (h1 : 1 ≤ x1 ∧ x1 < 600) (w0 : -9223372036854775808 ≤ a0 ∧ a0 ≤ 9223372036854775807) (w1 : -9223372036854775808 ≤ a1 ∧ a1 ≤ 9223372036854775807) (e0 : (a0.tmod 250).natAbs = x0) (e1 : (a1.tmod 900).natAbs = x1) : CallOk Tryz.prog (G a0 a1 x0 x1) S0 := by
  have hN : NamesOk (G a0 a1 x0 x1) N := names_ok a0 a1 x0 x1 h0 h1  w0 w1 
  exact (orS_ok (toldS_ok (named_ok a0 a1 x0 x1) rfl rfl (toldTrue (top.plain_ok _) top.begun_true)) (orS_ok (namedS_ok (named_ok a0 a1 x0 x1) (by decide) (by decide) rfl fun W => (by
    have hh := top.small_calls a0 250 (by decide) (by decide) W w0
    rw [e0] at hh
    rw [gb0 a0 a1 x0 x1, gv_chan 4098, gb2 a0 a1 x0 x1]
    exact hh)) (orS_ok (namedS_ok (named_ok a0 a1 x0 x1) (by decide) (by decide) rfl fun W => (by
    have hh := top.small_calls a1 900 (by decide) (by decide) W w1
    rw [e1] at hh
    rw [gb1 a0 a1 x0 x1, gv_chan 4099, gb3 a0 a1 x0 x1]
    exact hh)) (orS_ok (toldS_ok (named_ok a0 a1 x0 x1) (by kernel_rfl) (by kernel_rfl) (pure1 a0 a1 x0 x1 h0 h1)) (orS_ok (toldS_ok (named_ok a0 a1 x0 x1) (by kernel_rfl) (by kernel_rfl) (pure0 a0 a1 x0 x1 h0 h1)) (sumS_ok hN top.sum_ok (crc_ok a0 a1 x0 x1)))))))
theorem call_ok (a0 : Int) (a1 : Int) (x0 : Nat) (x1 : Nat) (h0 : 100 ≤ x0 ∧ x0 < 250) (h1 : 1 ≤ x1 ∧ x1 < 600) (w0 : -9223372036854775808 ≤ a0 ∧ a0 ≤ 9223372036854775807) (w1 : -9223372036854775808 ≤ a1 ∧ a1 ≤ 9223372036854775807) {S : CallF} (hS : CallOk Tryz.prog (G a0 a1 x0 x1) S) : CallOk Tryz.prog (G a0 a1 x0 x1) (evalFnR Tryz.prog X S (drawD3 Tryz.prog X) 600) := by
  have hN : NamesOk (G a0 a1 x0 x1) N := names_ok a0 a1 x0 x1 h0 h1  w0 w1 
  have hX : ExtOk Tryz.prog (G a0 a1 x0 x1) X := symX_ok hN (extSym_ok hN)
  exact evalFnR_ok hX trivial hS (drawD3_ok hX trivial) 600
end Go.Proofs.YtemmgompegkgkaaGreatDoor.toplasts.d3w1t
namespace Go.Proofs.YtemmgompegkgkaaGreatDoor.toplasts.d3w2t
open Go Vai
set_option linter.unusedVariables false
set_option linter.unusedSimpArgs false
noncomputable def N : Names := Names.ofL tab
noncomputable def X : Extn := symX Tryz.prog N (extSym Tryz.prog N)
noncomputable def S0 : CallF := (orS (toldS 8 [] (.bool true)) (orS (namedS 9 4096 250 (cn 4098)) (orS (namedS 9 4097 900 (jn 600)) (orS (toldS 288 pargs1 pres1) (orS (toldS 11 pargs0 pres0) (sumS 175 N crcs))))))
noncomputable def call0 : CallF := evalFnR Tryz.prog X S0 (drawD3 Tryz.prog X) 600
theorem S0_ok (a0 : Int) (a1 : Int) (x0 : Nat) (h0 : 100 ≤ x0 ∧ x0 < 250) (w0 : -9223372036854775808 ≤ a0 ∧ a0 ≤ 9223372036854775807) (w1 : -9223372036854775808 ≤ a1 ∧ a1 ≤ 9223372036854775807) (e0 : (a0.tmod 250).natAbs = x0) (e1 : (a1.tmod 900).natAbs = 600) : CallOk Tryz.prog (G a0 a1 x0) S0 := by
  have hN : NamesOk (G a0 a1 x0) N := names_ok a0 a1 x0 h0  w0 w1 
  exact (orS_ok (toldS_ok (named_ok a0 a1 x0) rfl rfl (toldTrue (top.plain_ok _) top.begun_true)) (orS_ok (namedS_ok (named_ok a0 a1 x0) (by decide) (by decide) rfl fun W => (by
    have hh := top.small_calls a0 250 (by decide) (by decide) W w0
    rw [e0] at hh
    rw [gb0 a0 a1 x0, gv_chan 4098, gb2 a0 a1 x0]
    exact hh)) (orS_ok (namedS_ok (named_ok a0 a1 x0) (by decide) (by decide) rfl fun W => (by
    have hh := top.small_calls a1 900 (by decide) (by decide) W w1
    rw [e1] at hh
    rw [gb1 a0 a1 x0]
    exact hh)) (orS_ok (toldS_ok (named_ok a0 a1 x0) (by kernel_rfl) (by kernel_rfl) (pure1 a0 a1 x0 h0)) (orS_ok (toldS_ok (named_ok a0 a1 x0) (by kernel_rfl) (by kernel_rfl) (pure0 a0 a1 x0 h0)) (sumS_ok hN top.sum_ok (crc_ok a0 a1 x0)))))))
theorem call_ok (a0 : Int) (a1 : Int) (x0 : Nat) (h0 : 100 ≤ x0 ∧ x0 < 250) (w0 : -9223372036854775808 ≤ a0 ∧ a0 ≤ 9223372036854775807) (w1 : -9223372036854775808 ≤ a1 ∧ a1 ≤ 9223372036854775807) {S : CallF} (hS : CallOk Tryz.prog (G a0 a1 x0) S) : CallOk Tryz.prog (G a0 a1 x0) (evalFnR Tryz.prog X S (drawD3 Tryz.prog X) 600) := by
  have hN : NamesOk (G a0 a1 x0) N := names_ok a0 a1 x0 h0  w0 w1 
  have hX : ExtOk Tryz.prog (G a0 a1 x0) X := symX_ok hN (extSym_ok hN)
  exact evalFnR_ok hX trivial hS (drawD3_ok hX trivial) 600
end Go.Proofs.YtemmgompegkgkaaGreatDoor.toplasts.d3w2t
namespace Go.Proofs.YtemmgompegkgkaaGreatDoor.toplasts.d3w3t
open Go Vai
set_option linter.unusedVariables false
set_option linter.unusedSimpArgs false
noncomputable def N : Names := Names.ofL tab
noncomputable def X : Extn := symX Tryz.prog N (extSym Tryz.prog N)
noncomputable def S0 : CallF := (orS (toldS 8 [] (.bool true)) (orS (namedS 9 4096 250 (cn 4098)) (orS (namedS 9 4097 900 (cn 4099)) (orS (toldS 288 pargs1 pres1) (orS (toldS 11 pargs0 pres0) (sumS 175 N crcs))))))
noncomputable def call0 : CallF := evalFnR Tryz.prog X S0 (drawD3 Tryz.prog X) 600
theorem S0_ok (a0 : Int) (a1 : Int) (x0 : Nat) (x1 : Nat) (h0 : 100 ≤ x0 ∧ x0 < 250) (h1 : 601 ≤ x1 ∧ x1 < 900) (w0 : -9223372036854775808 ≤ a0 ∧ a0 ≤ 9223372036854775807) (w1 : -9223372036854775808 ≤ a1 ∧ a1 ≤ 9223372036854775807) (e0 : (a0.tmod 250).natAbs = x0) (e1 : (a1.tmod 900).natAbs = x1) : CallOk Tryz.prog (G a0 a1 x0 x1) S0 := by
  have hN : NamesOk (G a0 a1 x0 x1) N := names_ok a0 a1 x0 x1 h0 h1  w0 w1 
  exact (orS_ok (toldS_ok (named_ok a0 a1 x0 x1) rfl rfl (toldTrue (top.plain_ok _) top.begun_true)) (orS_ok (namedS_ok (named_ok a0 a1 x0 x1) (by decide) (by decide) rfl fun W => (by
    have hh := top.small_calls a0 250 (by decide) (by decide) W w0
    rw [e0] at hh
    rw [gb0 a0 a1 x0 x1, gv_chan 4098, gb2 a0 a1 x0 x1]
    exact hh)) (orS_ok (namedS_ok (named_ok a0 a1 x0 x1) (by decide) (by decide) rfl fun W => (by
    have hh := top.small_calls a1 900 (by decide) (by decide) W w1
    rw [e1] at hh
    rw [gb1 a0 a1 x0 x1, gv_chan 4099, gb3 a0 a1 x0 x1]
    exact hh)) (orS_ok (toldS_ok (named_ok a0 a1 x0 x1) (by kernel_rfl) (by kernel_rfl) (pure1 a0 a1 x0 x1 h0 h1)) (orS_ok (toldS_ok (named_ok a0 a1 x0 x1) (by kernel_rfl) (by kernel_rfl) (pure0 a0 a1 x0 x1 h0 h1)) (sumS_ok hN top.sum_ok (crc_ok a0 a1 x0 x1)))))))
theorem call_ok (a0 : Int) (a1 : Int) (x0 : Nat) (x1 : Nat) (h0 : 100 ≤ x0 ∧ x0 < 250) (h1 : 601 ≤ x1 ∧ x1 < 900) (w0 : -9223372036854775808 ≤ a0 ∧ a0 ≤ 9223372036854775807) (w1 : -9223372036854775808 ≤ a1 ∧ a1 ≤ 9223372036854775807) {S : CallF} (hS : CallOk Tryz.prog (G a0 a1 x0 x1) S) : CallOk Tryz.prog (G a0 a1 x0 x1) (evalFnR Tryz.prog X S (drawD3 Tryz.prog X) 600) := by
  have hN : NamesOk (G a0 a1 x0 x1) N := names_ok a0 a1 x0 x1 h0 h1  w0 w1 
  have hX : ExtOk Tryz.prog (G a0 a1 x0 x1) X := symX_ok hN (extSym_ok hN)
  exact evalFnR_ok hX trivial hS (drawD3_ok hX trivial) 600
end Go.Proofs.YtemmgompegkgkaaGreatDoor.toplasts.d3w3t
