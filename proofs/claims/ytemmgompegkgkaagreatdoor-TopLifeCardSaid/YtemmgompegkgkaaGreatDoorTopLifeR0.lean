/- The law TopLife: the calls of the evaluator over its code, and states of the memory. -/
import Derived.Test.YtemmgompegkgkaaGreatDoorTB
import Derived.Test.YtemmgompegkgkaaGreatDoorTG
import Derived.Test.YtemmgompegkgkaaGreatDoorSM
import Derived.Test.YtemmgompegkgkaaGreatDoorTopLifeT0
import Derived.KernelRfl
namespace Go.Proofs.YtemmgompegkgkaaGreatDoor.toplife.n0
open Go Vai
set_option linter.unusedVariables false
set_option linter.unusedSimpArgs false
noncomputable def N : Names := Names.ofL tab
noncomputable def X : Extn := symX Tryz.prog N (extSym Tryz.prog N)
noncomputable def S0 : CallF := (orS (toldS 8 [] (.bool true)) (orS (namedS 9 4097 100000 (jn 0)) (sumS 175 N crcs)))
noncomputable def call0 : CallF := evalFnR Tryz.prog X S0 (drawD3 Tryz.prog X) 600
theorem S0_ok (a0 : Int) (a1 : Int) (w0 : -9223372036854775808 ≤ a0 ∧ a0 ≤ 9223372036854775807) (w1 : -9223372036854775808 ≤ a1 ∧ a1 ≤ 9223372036854775807) (n0 : a0 < 0) (e1 : (a1.tmod 100000).natAbs = 0) : CallOk Tryz.prog (G a0 a1 ) S0 := by
  have hN : NamesOk (G a0 a1 ) N := names_ok a0 a1    w0 w1 n0
  exact (orS_ok (toldS_ok (named_ok a0 a1 ) rfl rfl (toldTrue (top.plain_ok _) top.begun_true)) (orS_ok (namedS_ok (named_ok a0 a1 ) (by decide) (by decide) rfl fun W => (by
    have hh := top.small_calls a1 100000 (by decide) (by decide) W w1
    rw [e1] at hh
    rw [gb1 a0 a1 ]
    exact hh)) (sumS_ok hN top.sum_ok (crc_ok a0 a1 ))))
theorem call_ok (a0 : Int) (a1 : Int) (w0 : -9223372036854775808 ≤ a0 ∧ a0 ≤ 9223372036854775807) (w1 : -9223372036854775808 ≤ a1 ∧ a1 ≤ 9223372036854775807) (n0 : a0 < 0) {S : CallF} (hS : CallOk Tryz.prog (G a0 a1 ) S) : CallOk Tryz.prog (G a0 a1 ) (evalFnR Tryz.prog X S (drawD3 Tryz.prog X) 600) := by
  have hN : NamesOk (G a0 a1 ) N := names_ok a0 a1    w0 w1 n0
  have hX : ExtOk Tryz.prog (G a0 a1 ) X := symX_ok hN (extSym_ok hN)
  exact evalFnR_ok hX trivial hS (drawD3_ok hX trivial) 600
end Go.Proofs.YtemmgompegkgkaaGreatDoor.toplife.n0
namespace Go.Proofs.YtemmgompegkgkaaGreatDoor.toplife.n1
open Go Vai
set_option linter.unusedVariables false
set_option linter.unusedSimpArgs false
noncomputable def N : Names := Names.ofL tab
noncomputable def X : Extn := symX Tryz.prog N (extSym Tryz.prog N)
noncomputable def S0 : CallF := (orS (toldS 8 [] (.bool true)) (orS (namedS 9 4097 100000 (cn 4098)) (sumS 175 N crcs)))
noncomputable def call0 : CallF := evalFnR Tryz.prog X S0 (drawD3 Tryz.prog X) 600
theorem S0_ok (a0 : Int) (a1 : Int) (x0 : Nat) (h0 : 1 ≤ x0 ∧ x0 < 100000) (w0 : -9223372036854775808 ≤ a0 ∧ a0 ≤ 9223372036854775807) (w1 : -9223372036854775808 ≤ a1 ∧ a1 ≤ 9223372036854775807) (n0 : a0 < 0) (e1 : (a1.tmod 100000).natAbs = x0) : CallOk Tryz.prog (G a0 a1 x0) S0 := by
  have hN : NamesOk (G a0 a1 x0) N := names_ok a0 a1 x0 h0  w0 w1 n0
  exact (orS_ok (toldS_ok (named_ok a0 a1 x0) rfl rfl (toldTrue (top.plain_ok _) top.begun_true)) (orS_ok (namedS_ok (named_ok a0 a1 x0) (by decide) (by decide) rfl fun W => (by
    have hh := top.small_calls a1 100000 (by decide) (by decide) W w1
    rw [e1] at hh
    rw [gb1 a0 a1 x0, gv_chan 4098, gb2 a0 a1 x0]
    exact hh)) (sumS_ok hN top.sum_ok (crc_ok a0 a1 x0))))
theorem call_ok (a0 : Int) (a1 : Int) (x0 : Nat) (h0 : 1 ≤ x0 ∧ x0 < 100000) (w0 : -9223372036854775808 ≤ a0 ∧ a0 ≤ 9223372036854775807) (w1 : -9223372036854775808 ≤ a1 ∧ a1 ≤ 9223372036854775807) (n0 : a0 < 0) {S : CallF} (hS : CallOk Tryz.prog (G a0 a1 x0) S) : CallOk Tryz.prog (G a0 a1 x0) (evalFnR Tryz.prog X S (drawD3 Tryz.prog X) 600) := by
  have hN : NamesOk (G a0 a1 x0) N := names_ok a0 a1 x0 h0  w0 w1 n0
  have hX : ExtOk Tryz.prog (G a0 a1 x0) X := symX_ok hN (extSym_ok hN)
  exact evalFnR_ok hX trivial hS (drawD3_ok hX trivial) 600
end Go.Proofs.YtemmgompegkgkaaGreatDoor.toplife.n1
namespace Go.Proofs.YtemmgompegkgkaaGreatDoor.toplife.z0
open Go Vai
set_option linter.unusedVariables false
set_option linter.unusedSimpArgs false
noncomputable def N : Names := Names.ofL tab
noncomputable def X : Extn := symX Tryz.prog N (extSym Tryz.prog N)
noncomputable def S0 : CallF := (orS (toldS 8 [] (.bool true)) (orS (namedS 9 4097 100000 (jn 0)) (sumS 175 N crcs)))
noncomputable def call0 : CallF := evalFnR Tryz.prog X S0 (drawD3 Tryz.prog X) 600
theorem S0_ok (a0 : Int) (a1 : Int) (w0 : -9223372036854775808 ≤ a0 ∧ a0 ≤ 9223372036854775807) (w1 : -9223372036854775808 ≤ a1 ∧ a1 ≤ 9223372036854775807) (e1 : (a1.tmod 100000).natAbs = 0) : CallOk Tryz.prog (G a0 a1 ) S0 := by
  have hN : NamesOk (G a0 a1 ) N := names_ok a0 a1    w0 w1 
  exact (orS_ok (toldS_ok (named_ok a0 a1 ) rfl rfl (toldTrue (top.plain_ok _) top.begun_true)) (orS_ok (namedS_ok (named_ok a0 a1 ) (by decide) (by decide) rfl fun W => (by
    have hh := top.small_calls a1 100000 (by decide) (by decide) W w1
    rw [e1] at hh
    rw [gb1 a0 a1 ]
    exact hh)) (sumS_ok hN top.sum_ok (crc_ok a0 a1 ))))
theorem call_ok (a0 : Int) (a1 : Int) (w0 : -9223372036854775808 ≤ a0 ∧ a0 ≤ 9223372036854775807) (w1 : -9223372036854775808 ≤ a1 ∧ a1 ≤ 9223372036854775807) {S : CallF} (hS : CallOk Tryz.prog (G a0 a1 ) S) : CallOk Tryz.prog (G a0 a1 ) (evalFnR Tryz.prog X S (drawD3 Tryz.prog X) 600) := by
  have hN : NamesOk (G a0 a1 ) N := names_ok a0 a1    w0 w1 
  have hX : ExtOk Tryz.prog (G a0 a1 ) X := symX_ok hN (extSym_ok hN)
  exact evalFnR_ok hX trivial hS (drawD3_ok hX trivial) 600
end Go.Proofs.YtemmgompegkgkaaGreatDoor.toplife.z0
namespace Go.Proofs.YtemmgompegkgkaaGreatDoor.toplife.z1
open Go Vai
set_option linter.unusedVariables false
set_option linter.unusedSimpArgs false
noncomputable def N : Names := Names.ofL tab
noncomputable def X : Extn := symX Tryz.prog N (extSym Tryz.prog N)
noncomputable def S0 : CallF := (orS (toldS 8 [] (.bool true)) (orS (namedS 9 4097 100000 (cn 4098)) (sumS 175 N crcs)))
noncomputable def call0 : CallF := evalFnR Tryz.prog X S0 (drawD3 Tryz.prog X) 600
theorem S0_ok (a0 : Int) (a1 : Int) (x0 : Nat) (h0 : 1 ≤ x0 ∧ x0 < 100000) (w0 : -9223372036854775808 ≤ a0 ∧ a0 ≤ 9223372036854775807) (w1 : -9223372036854775808 ≤ a1 ∧ a1 ≤ 9223372036854775807) (e1 : (a1.tmod 100000).natAbs = x0) : CallOk Tryz.prog (G a0 a1 x0) S0 := by
  have hN : NamesOk (G a0 a1 x0) N := names_ok a0 a1 x0 h0  w0 w1 
  exact (orS_ok (toldS_ok (named_ok a0 a1 x0) rfl rfl (toldTrue (top.plain_ok _) top.begun_true)) (orS_ok (namedS_ok (named_ok a0 a1 x0) (by decide) (by decide) rfl fun W => (by
    have hh := top.small_calls a1 100000 (by decide) (by decide) W w1
    rw [e1] at hh
    rw [gb1 a0 a1 x0, gv_chan 4098, gb2 a0 a1 x0]
    exact hh)) (sumS_ok hN top.sum_ok (crc_ok a0 a1 x0))))
theorem call_ok (a0 : Int) (a1 : Int) (x0 : Nat) (h0 : 1 ≤ x0 ∧ x0 < 100000) (w0 : -9223372036854775808 ≤ a0 ∧ a0 ≤ 9223372036854775807) (w1 : -9223372036854775808 ≤ a1 ∧ a1 ≤ 9223372036854775807) {S : CallF} (hS : CallOk Tryz.prog (G a0 a1 x0) S) : CallOk Tryz.prog (G a0 a1 x0) (evalFnR Tryz.prog X S (drawD3 Tryz.prog X) 600) := by
  have hN : NamesOk (G a0 a1 x0) N := names_ok a0 a1 x0 h0  w0 w1 
  have hX : ExtOk Tryz.prog (G a0 a1 x0) X := symX_ok hN (extSym_ok hN)
  exact evalFnR_ok hX trivial hS (drawD3_ok hX trivial) 600
end Go.Proofs.YtemmgompegkgkaaGreatDoor.toplife.z1
namespace Go.Proofs.YtemmgompegkgkaaGreatDoor.toplife.m0
open Go Vai
set_option linter.unusedVariables false
set_option linter.unusedSimpArgs false
noncomputable def N : Names := Names.ofL tab
noncomputable def X : Extn := symX Tryz.prog N (extSym Tryz.prog N)
noncomputable def S0 : CallF := (orS (toldS 8 [] (.bool true)) (orS (namedS 9 4097 100000 (jn 0)) (sumS 175 N crcs)))
noncomputable def call0 : CallF := evalFnR Tryz.prog X S0 (drawD3 Tryz.prog X) 600
theorem S0_ok (a0 : Int) (a1 : Int) (x0 : Nat) (h0 : 1 ≤ x0 ∧ x0 < 86401) (w0 : -9223372036854775808 ≤ a0 ∧ a0 ≤ 9223372036854775807) (w1 : -9223372036854775808 ≤ a1 ∧ a1 ≤ 9223372036854775807) (e1 : (a1.tmod 100000).natAbs = 0) : CallOk Tryz.prog (G a0 a1 x0) S0 := by
  have hN : NamesOk (G a0 a1 x0) N := names_ok a0 a1 x0 h0  w0 w1 
  exact (orS_ok (toldS_ok (named_ok a0 a1 x0) rfl rfl (toldTrue (top.plain_ok _) top.begun_true)) (orS_ok (namedS_ok (named_ok a0 a1 x0) (by decide) (by decide) rfl fun W => (by
    have hh := top.small_calls a1 100000 (by decide) (by decide) W w1
    rw [e1] at hh
    rw [gb1 a0 a1 x0]
    exact hh)) (sumS_ok hN top.sum_ok (crc_ok a0 a1 x0))))
theorem call_ok (a0 : Int) (a1 : Int) (x0 : Nat) (h0 : 1 ≤ x0 ∧ x0 < 86401) (w0 : -9223372036854775808 ≤ a0 ∧ a0 ≤ 9223372036854775807) (w1 : -9223372036854775808 ≤ a1 ∧ a1 ≤ 9223372036854775807) {S : CallF} (hS : CallOk Tryz.prog (G a0 a1 x0) S) : CallOk Tryz.prog (G a0 a1 x0) (evalFnR Tryz.prog X S (drawD3 Tryz.prog X) 600) := by
  have hN : NamesOk (G a0 a1 x0) N := names_ok a0 a1 x0 h0  w0 w1 
  have hX : ExtOk Tryz.prog (G a0 a1 x0) X := symX_ok hN (extSym_ok hN)
  exact evalFnR_ok hX trivial hS (drawD3_ok hX trivial) 600
end Go.Proofs.YtemmgompegkgkaaGreatDoor.toplife.m0
namespace Go.Proofs.YtemmgompegkgkaaGreatDoor.toplife.ml
open Go Vai
set_option linter.unusedVariables false
set_option linter.unusedSimpArgs false
noncomputable def N : Names := Names.ofL tab
noncomputable def X : Extn := symX Tryz.prog N (extSym Tryz.prog N)
noncomputable def S0 : CallF := (orS (toldS 8 [] (.bool true)) (orS (namedS 9 4097 100000 (cn 4098)) (sumS 175 N crcs)))
noncomputable def call0 : CallF := evalFnR Tryz.prog X S0 (drawD3 Tryz.prog X) 600
theorem S0_ok (a0 : Int) (a1 : Int) (x0 : Nat) (x1 : Nat) (h0 : 2 ≤ x0 ∧ x0 < 86401) (h1 : 1 ≤ x1 ∧ x1 < 86400) (r0 : x1 < x0) (w0 : -9223372036854775808 ≤ a0 ∧ a0 ≤ 9223372036854775807) (w1 : -9223372036854775808 ≤ a1 ∧ a1 ≤ 9223372036854775807) (e1 : (a1.tmod 100000).natAbs = x1) : CallOk Tryz.prog (G a0 a1 x0 x1) S0 := by
  have hN : NamesOk (G a0 a1 x0 x1) N := names_ok a0 a1 x0 x1 h0 h1 r0 w0 w1 
  exact (orS_ok (toldS_ok (named_ok a0 a1 x0 x1) rfl rfl (toldTrue (top.plain_ok _) top.begun_true)) (orS_ok (namedS_ok (named_ok a0 a1 x0 x1) (by decide) (by decide) rfl fun W => (by
    have hh := top.small_calls a1 100000 (by decide) (by decide) W w1
    rw [e1] at hh
    rw [gb1 a0 a1 x0 x1, gv_chan 4098, gb2 a0 a1 x0 x1]
    exact hh)) (sumS_ok hN top.sum_ok (crc_ok a0 a1 x0 x1))))
theorem call_ok (a0 : Int) (a1 : Int) (x0 : Nat) (x1 : Nat) (h0 : 2 ≤ x0 ∧ x0 < 86401) (h1 : 1 ≤ x1 ∧ x1 < 86400) (r0 : x1 < x0) (w0 : -9223372036854775808 ≤ a0 ∧ a0 ≤ 9223372036854775807) (w1 : -9223372036854775808 ≤ a1 ∧ a1 ≤ 9223372036854775807) {S : CallF} (hS : CallOk Tryz.prog (G a0 a1 x0 x1) S) : CallOk Tryz.prog (G a0 a1 x0 x1) (evalFnR Tryz.prog X S (drawD3 Tryz.prog X) 600) := by
  have hN : NamesOk (G a0 a1 x0 x1) N := names_ok a0 a1 x0 x1 h0 h1 r0 w0 w1 
  have hX : ExtOk Tryz.prog (G a0 a1 x0 x1) X := symX_ok hN (extSym_ok hN)
  exact evalFnR_ok hX trivial hS (drawD3_ok hX trivial) 600
end Go.Proofs.YtemmgompegkgkaaGreatDoor.toplife.ml
namespace Go.Proofs.YtemmgompegkgkaaGreatDoor.toplife.mg
open Go Vai
set_option linter.unusedVariables false
set_option linter.unusedSimpArgs false
noncomputable def N : Names := Names.ofL tab
noncomputable def X : Extn := symX Tryz.prog N (extSym Tryz.prog N)
noncomputable def S0 : CallF := (orS (toldS 8 [] (.bool true)) (orS (namedS 9 4097 100000 (cn 4098)) (sumS 175 N crcs)))
noncomputable def call0 : CallF := evalFnR Tryz.prog X S0 (drawD3 Tryz.prog X) 600
theorem S0_ok (a0 : Int) (a1 : Int) (x0 : Nat) (x1 : Nat) (h0 : 1 ≤ x0 ∧ x0 < 86401) (h1 : 1 ≤ x1 ∧ x1 < 100000) (r0 : x0 <= x1) (w0 : -9223372036854775808 ≤ a0 ∧ a0 ≤ 9223372036854775807) (w1 : -9223372036854775808 ≤ a1 ∧ a1 ≤ 9223372036854775807) (e1 : (a1.tmod 100000).natAbs = x1) : CallOk Tryz.prog (G a0 a1 x0 x1) S0 := by
  have hN : NamesOk (G a0 a1 x0 x1) N := names_ok a0 a1 x0 x1 h0 h1 r0 w0 w1 
  exact (orS_ok (toldS_ok (named_ok a0 a1 x0 x1) rfl rfl (toldTrue (top.plain_ok _) top.begun_true)) (orS_ok (namedS_ok (named_ok a0 a1 x0 x1) (by decide) (by decide) rfl fun W => (by
    have hh := top.small_calls a1 100000 (by decide) (by decide) W w1
    rw [e1] at hh
    rw [gb1 a0 a1 x0 x1, gv_chan 4098, gb2 a0 a1 x0 x1]
    exact hh)) (sumS_ok hN top.sum_ok (crc_ok a0 a1 x0 x1))))
theorem call_ok (a0 : Int) (a1 : Int) (x0 : Nat) (x1 : Nat) (h0 : 1 ≤ x0 ∧ x0 < 86401) (h1 : 1 ≤ x1 ∧ x1 < 100000) (r0 : x0 <= x1) (w0 : -9223372036854775808 ≤ a0 ∧ a0 ≤ 9223372036854775807) (w1 : -9223372036854775808 ≤ a1 ∧ a1 ≤ 9223372036854775807) {S : CallF} (hS : CallOk Tryz.prog (G a0 a1 x0 x1) S) : CallOk Tryz.prog (G a0 a1 x0 x1) (evalFnR Tryz.prog X S (drawD3 Tryz.prog X) 600) := by
  have hN : NamesOk (G a0 a1 x0 x1) N := names_ok a0 a1 x0 x1 h0 h1 r0 w0 w1 
  have hX : ExtOk Tryz.prog (G a0 a1 x0 x1) X := symX_ok hN (extSym_ok hN)
  exact evalFnR_ok hX trivial hS (drawD3_ok hX trivial) 600
end Go.Proofs.YtemmgompegkgkaaGreatDoor.toplife.mg
namespace Go.Proofs.YtemmgompegkgkaaGreatDoor.toplife.b0
open Go Vai
set_option linter.unusedVariables false
set_option linter.unusedSimpArgs false
noncomputable def N : Names := Names.ofL tab
noncomputable def X : Extn := symX Tryz.prog N (extSym Tryz.prog N)
noncomputable def S0 : CallF := (orS (toldS 8 [] (.bool true)) (orS (namedS 9 4097 100000 (jn 0)) (sumS 175 N crcs)))
noncomputable def call0 : CallF := evalFnR Tryz.prog X S0 (drawD3 Tryz.prog X) 600
theorem S0_ok (a0 : Int) (a1 : Int) (x0 : Nat) (h0 : 86401 ≤ x0 ∧ x0 < 9223372036854775808) (w0 : -9223372036854775808 ≤ a0 ∧ a0 ≤ 9223372036854775807) (w1 : -9223372036854775808 ≤ a1 ∧ a1 ≤ 9223372036854775807) (e1 : (a1.tmod 100000).natAbs = 0) : CallOk Tryz.prog (G a0 a1 x0) S0 := by
  have hN : NamesOk (G a0 a1 x0) N := names_ok a0 a1 x0 h0  w0 w1 
  exact (orS_ok (toldS_ok (named_ok a0 a1 x0) rfl rfl (toldTrue (top.plain_ok _) top.begun_true)) (orS_ok (namedS_ok (named_ok a0 a1 x0) (by decide) (by decide) rfl fun W => (by
    have hh := top.small_calls a1 100000 (by decide) (by decide) W w1
    rw [e1] at hh
    rw [gb1 a0 a1 x0]
    exact hh)) (sumS_ok hN top.sum_ok (crc_ok a0 a1 x0))))
theorem call_ok (a0 : Int) (a1 : Int) (x0 : Nat) (h0 : 86401 ≤ x0 ∧ x0 < 9223372036854775808) (w0 : -9223372036854775808 ≤ a0 ∧ a0 ≤ 9223372036854775807) (w1 : -9223372036854775808 ≤ a1 ∧ a1 ≤ 9223372036854775807) {S : CallF} (hS : CallOk Tryz.prog (G a0 a1 x0) S) : CallOk Tryz.prog (G a0 a1 x0) (evalFnR Tryz.prog X S (drawD3 Tryz.prog X) 600) := by
  have hN : NamesOk (G a0 a1 x0) N := names_ok a0 a1 x0 h0  w0 w1 
  have hX : ExtOk Tryz.prog (G a0 a1 x0) X := symX_ok hN (extSym_ok hN)
  exact evalFnR_ok hX trivial hS (drawD3_ok hX trivial) 600
end Go.Proofs.YtemmgompegkgkaaGreatDoor.toplife.b0
namespace Go.Proofs.YtemmgompegkgkaaGreatDoor.toplife.bl
open Go Vai
set_option linter.unusedVariables false
set_option linter.unusedSimpArgs false
noncomputable def N : Names := Names.ofL tab
noncomputable def X : Extn := symX Tryz.prog N (extSym Tryz.prog N)
noncomputable def S0 : CallF := (orS (toldS 8 [] (.bool true)) (orS (namedS 9 4097 100000 (cn 4098)) (sumS 175 N crcs)))
noncomputable def call0 : CallF := evalFnR Tryz.prog X S0 (drawD3 Tryz.prog X) 600
theorem S0_ok (a0 : Int) (a1 : Int) (x0 : Nat) (x1 : Nat) (h0 : 86401 ≤ x0 ∧ x0 < 9223372036854775808) (h1 : 1 ≤ x1 ∧ x1 < 86400) (w0 : -9223372036854775808 ≤ a0 ∧ a0 ≤ 9223372036854775807) (w1 : -9223372036854775808 ≤ a1 ∧ a1 ≤ 9223372036854775807) (e1 : (a1.tmod 100000).natAbs = x1) : CallOk Tryz.prog (G a0 a1 x0 x1) S0 := by
  have hN : NamesOk (G a0 a1 x0 x1) N := names_ok a0 a1 x0 x1 h0 h1  w0 w1 
  exact (orS_ok (toldS_ok (named_ok a0 a1 x0 x1) rfl rfl (toldTrue (top.plain_ok _) top.begun_true)) (orS_ok (namedS_ok (named_ok a0 a1 x0 x1) (by decide) (by decide) rfl fun W => (by
    have hh := top.small_calls a1 100000 (by decide) (by decide) W w1
    rw [e1] at hh
    rw [gb1 a0 a1 x0 x1, gv_chan 4098, gb2 a0 a1 x0 x1]
    exact hh)) (sumS_ok hN top.sum_ok (crc_ok a0 a1 x0 x1))))
theorem call_ok (a0 : Int) (a1 : Int) (x0 : Nat) (x1 : Nat) (h0 : 86401 ≤ x0 ∧ x0 < 9223372036854775808) (h1 : 1 ≤ x1 ∧ x1 < 86400) (w0 : -9223372036854775808 ≤ a0 ∧ a0 ≤ 9223372036854775807) (w1 : -9223372036854775808 ≤ a1 ∧ a1 ≤ 9223372036854775807) {S : CallF} (hS : CallOk Tryz.prog (G a0 a1 x0 x1) S) : CallOk Tryz.prog (G a0 a1 x0 x1) (evalFnR Tryz.prog X S (drawD3 Tryz.prog X) 600) := by
  have hN : NamesOk (G a0 a1 x0 x1) N := names_ok a0 a1 x0 x1 h0 h1  w0 w1 
  have hX : ExtOk Tryz.prog (G a0 a1 x0 x1) X := symX_ok hN (extSym_ok hN)
  exact evalFnR_ok hX trivial hS (drawD3_ok hX trivial) 600
end Go.Proofs.YtemmgompegkgkaaGreatDoor.toplife.bl
namespace Go.Proofs.YtemmgompegkgkaaGreatDoor.toplife.bg
open Go Vai
set_option linter.unusedVariables false
set_option linter.unusedSimpArgs false
noncomputable def N : Names := Names.ofL tab
noncomputable def X : Extn := symX Tryz.prog N (extSym Tryz.prog N)
noncomputable def S0 : CallF := (orS (toldS 8 [] (.bool true)) (orS (namedS 9 4097 100000 (cn 4098)) (sumS 175 N crcs)))
noncomputable def call0 : CallF := evalFnR Tryz.prog X S0 (drawD3 Tryz.prog X) 600
theorem S0_ok (a0 : Int) (a1 : Int) (x0 : Nat) (x1 : Nat) (h0 : 86401 ≤ x0 ∧ x0 < 9223372036854775808) (h1 : 86400 ≤ x1 ∧ x1 < 100000) (w0 : -9223372036854775808 ≤ a0 ∧ a0 ≤ 9223372036854775807) (w1 : -9223372036854775808 ≤ a1 ∧ a1 ≤ 9223372036854775807) (e1 : (a1.tmod 100000).natAbs = x1) : CallOk Tryz.prog (G a0 a1 x0 x1) S0 := by
  have hN : NamesOk (G a0 a1 x0 x1) N := names_ok a0 a1 x0 x1 h0 h1  w0 w1 
  exact (orS_ok (toldS_ok (named_ok a0 a1 x0 x1) rfl rfl (toldTrue (top.plain_ok _) top.begun_true)) (orS_ok (namedS_ok (named_ok a0 a1 x0 x1) (by decide) (by decide) rfl fun W => (by
    have hh := top.small_calls a1 100000 (by decide) (by decide) W w1
    rw [e1] at hh
    rw [gb1 a0 a1 x0 x1, gv_chan 4098, gb2 a0 a1 x0 x1]
    exact hh)) (sumS_ok hN top.sum_ok (crc_ok a0 a1 x0 x1))))
theorem call_ok (a0 : Int) (a1 : Int) (x0 : Nat) (x1 : Nat) (h0 : 86401 ≤ x0 ∧ x0 < 9223372036854775808) (h1 : 86400 ≤ x1 ∧ x1 < 100000) (w0 : -9223372036854775808 ≤ a0 ∧ a0 ≤ 9223372036854775807) (w1 : -9223372036854775808 ≤ a1 ∧ a1 ≤ 9223372036854775807) {S : CallF} (hS : CallOk Tryz.prog (G a0 a1 x0 x1) S) : CallOk Tryz.prog (G a0 a1 x0 x1) (evalFnR Tryz.prog X S (drawD3 Tryz.prog X) 600) := by
  have hN : NamesOk (G a0 a1 x0 x1) N := names_ok a0 a1 x0 x1 h0 h1  w0 w1 
  have hX : ExtOk Tryz.prog (G a0 a1 x0 x1) X := symX_ok hN (extSym_ok hN)
  exact evalFnR_ok hX trivial hS (drawD3_ok hX trivial) 600
end Go.Proofs.YtemmgompegkgkaaGreatDoor.toplife.bg
