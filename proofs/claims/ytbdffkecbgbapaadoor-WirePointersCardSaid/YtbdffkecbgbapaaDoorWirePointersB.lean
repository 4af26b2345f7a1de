/- The law WirePointers: the call of the evaluator over its code, and what the evaluator says where a guard lets nothing in. -/
import Derived.Test.YtbdffkecbgbapaaDoorProg
import Derived.Test.YtbdffkecbgbapaaDoorVD
import Derived.KernelRfl
namespace Go.Proofs.YtbdffkecbgbapaaDoor.wirepointers
set_option linter.unusedVariables false
/-- What is told of functions without a body. -/
noncomputable abbrev ext : Vai.Extn := Vai.extFull Tryd.prog
noncomputable def plainCall : Vai.CallF := Vai.evalFn Tryd.prog ext Vai.noSumm (Vai.drawD Tryd.prog ext) 600
theorem plain_ok (G : Vai.Sym) : Vai.CallOk Tryd.prog G plainCall := Vai.evalFn_ok Vai.extFull_ok trivial Vai.noSumm_ok (Vai.drawD_ok Vai.extFull_ok trivial) 600
set_option maxRecDepth 100000 in
theorem begun_true : Vai.saidOf (plainCall 8 #[] Vai.mem0) = some true := by kernel_rfl
noncomputable def lawCall : Vai.CallF := Vai.evalFn Tryd.prog ext (Vai.trueS 8) (Vai.drawD Tryd.prog ext) 600
theorem law_ok (G : Vai.Sym) : Vai.CallOk Tryd.prog G lawCall := Vai.evalFn_ok Vai.extFull_ok trivial (Vai.trueS_ok (plain_ok G) begun_true) (Vai.drawD_ok Vai.extFull_ok trivial) 600
noncomputable def said (args : Array Value) : Bool := Vai.isT (Vai.saidOf (lawCall 3 args Vai.mem0))
set_option maxRecDepth 100000 in
theorem low1 (k : Nat) (a0 : Int) : (said #[.int .i64 a0, .int .i64 (.negSucc k)]) = true := by kernel_rfl
set_option maxRecDepth 100000 in
theorem high1 (k : Nat) (a0 : Int) : (said #[.int .i64 a0, .int .i64 (.ofNat (k + 7))]) = true := by kernel_rfl
set_option maxRecDepth 100000 in
theorem low0 (k : Nat) : (Vai.allB 7 fun i1 => said #[.int .i64 (.negSucc k), .int .i64 (.ofNat (i1 + 0))]) = true := by kernel_rfl
set_option maxRecDepth 100000 in
theorem high0 (k : Nat) : (Vai.allB 7 fun i1 => said #[.int .i64 (.ofNat (k + 61)), .int .i64 (.ofNat (i1 + 0))]) = true := by kernel_rfl
end Go.Proofs.YtbdffkecbgbapaaDoor.wirepointers
