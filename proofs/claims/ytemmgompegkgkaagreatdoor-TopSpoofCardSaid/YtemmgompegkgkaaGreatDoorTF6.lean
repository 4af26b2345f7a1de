/- No function of the program starts a goroutine: so no row's road does. -/
import Derived.Test.YtemmgompegkgkaaGreatDoorRows
import Derived.Test.YtemmgompegkgkaaGreatDoorProg
import Derived.ProofKit
import Derived.JoinedOf
import Derived.SevenTiedAt
import Derived.KernelRfl
namespace Go.Proofs.YtemmgompegkgkaaGreatDoor.top
set_option linter.unusedVariables false
theorem goes_none {P : Program} (h : P.funcs.any Func.goes = false) (f : FuncId) : P.goes f = false := by
  unfold Program.goes
  rw [h, Bool.and_false, Bool.or_false, List.any_eq_false]
  intro g _
  cases hg : P.funcs[g]? with
  | none => simp
  | some fn =>
    simp only [Option.any_some]
    intro ht
    have hm : fn ∈ P.funcs := Array.mem_of_getElem? hg
    rw [Array.any_eq_false'] at h
    exact h fn hm ht
theorem goesBy_none {P : Program} (h : P.funcs.any Func.goes = false) (c : OpenClaim) : false = c.goesBy P := by
  unfold OpenClaim.goesBy Program.goesAt Program.goesFrom
  have h1 : (P.funcNamed c.func).any P.goes = false := by
    cases P.funcNamed c.func with
    | none => rfl
    | some f => exact goes_none h f
  have h2 : P.inits.toList.any P.goes = false := by
    rw [List.any_eq_false]
    intro x _ hx
    rw [goes_none h x] at hx; cases hx
  rw [h1, h2]
  cases c.start <;> rfl
set_option maxRecDepth 100000 in
theorem noGo : Tryz.prog.funcs.any Func.goes = false := by kernel_rfl
theorem cGoes (c : OpenClaim) : false = c.goesBy Tryz.prog := goesBy_none noGo c
end Go.Proofs.YtemmgompegkgkaaGreatDoor.top
