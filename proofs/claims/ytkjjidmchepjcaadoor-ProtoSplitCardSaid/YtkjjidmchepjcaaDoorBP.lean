/- What the laws ask ahead of all else is true: by the evaluator over its code. -/
import Derived.Test.YtkjjidmchepjcaaDoorProg
import Derived.WalkKit
import Derived.ProofKit
import Derived.Lib.Hide
import Derived.WalkLawsBesides
import Derived.WalkSpells
import Derived.Deep.RegionWith
import Derived.Test.YtkjjidmchepjcaaDoorRows
import Derived.Test.YtkjjidmchepjcaaDoorVE
import Derived.Below
namespace Go.Proofs.YtkjjidmchepjcaaDoor.bgproto
open Go Go.RowKit
noncomputable abbrev ext : Vai.Extn := Vai.extFull Tryd.prog
noncomputable def plainCall : Vai.CallF := Vai.evalFn Tryd.prog ext Vai.noSumm (Vai.drawD3 Tryd.prog ext) 200
theorem plain_ok (G : Vai.Sym) : Vai.CallOk Tryd.prog G plainCall := Vai.evalFn_ok Vai.extFull_ok trivial Vai.noSumm_ok (Vai.drawD3_ok Vai.extFull_ok trivial) 200
set_option maxRecDepth 100000 in
theorem is_true : Vai.saidOf (plainCall 14 #[] Vai.mem0) = some true := by kernel_rfl
theorem begun (W : World) : Calls Tryd.prog 14 #[] W fun e w' => e = .returned (.bool true) ∧ Below W.heap.size W w' :=
  Vai.law_of_eval (plain_ok fun _ => .bool false) (args := #[]) trivial is_true W
end Go.Proofs.YtkjjidmchepjcaaDoor.bgproto
