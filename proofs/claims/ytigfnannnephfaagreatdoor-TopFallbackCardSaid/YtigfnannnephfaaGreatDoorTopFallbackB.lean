/- The law TopFallback: the call of the evaluator over its code. -/
import Derived.Test.YtigfnannnephfaaGreatDoorTB
namespace Go.Proofs.YtigfnannnephfaaGreatDoor.topfallback
set_option linter.unusedVariables false
open top
noncomputable def lawCall (v : Nat) : Vai.CallF := Vai.evalFnR Tryz.prog ext (Vai.trueS 5) (Vai.drawD3 Tryz.prog ext) 600
theorem law_ok (G : Vai.Sym) : Vai.CallOk Tryz.prog G (lawCall 0) := Vai.evalFnR_ok Vai.extMost_ok trivial (Vai.trueS_ok (plain_ok G) begun_true) (Vai.drawD3_ok Vai.extMost_ok trivial) 600
end Go.Proofs.YtigfnannnephfaaGreatDoor.topfallback
