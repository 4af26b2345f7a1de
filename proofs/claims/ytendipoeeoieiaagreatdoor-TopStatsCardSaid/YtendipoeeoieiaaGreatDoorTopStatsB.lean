/- The law TopStats: the call of the evaluator over its code. -/
import Derived.Test.YtendipoeeoieiaaGreatDoorTB
import Derived.Test.YtendipoeeoieiaaGreatDoorTopStatsA
namespace Go.Proofs.YtendipoeeoieiaaGreatDoor.topstats
set_option linter.unusedVariables false
open top
noncomputable def lawCall (v : Nat) : Vai.CallF := Vai.evalFnR Tryz.prog ext (Vai.orS (Vai.trueS 8) (Vai.orS (Vai.namedS 9 4096 20 (.int .i64 (.ofNat v))) told)) (Vai.drawD3 Tryz.prog ext) 600
theorem law_ok (a : Int) (w : -9223372036854775808 ≤ a ∧ a ≤ 9223372036854775807) (v : Nat) (hv : (a.tmod 20).natAbs = v) : Vai.CallOk Tryz.prog (fun _ => .int .i64 a) (lawCall v) :=
  Vai.evalFnR_ok Vai.extMost_ok trivial (Vai.orS_ok (Vai.trueS_ok (plain_ok _) begun_true) (Vai.orS_ok (Vai.namedS_ok (G := fun _ => .int .i64 a) (fun _ => trivial) (by decide) (by decide) rfl fun W => by
    subst hv
    exact small_calls a 20 (by decide) (by decide) W w) (told_ok _))) (Vai.drawD3_ok Vai.extMost_ok trivial) 600
end Go.Proofs.YtendipoeeoieiaaGreatDoor.topstats
