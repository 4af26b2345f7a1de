/- The law ServiceNone: the kernel runs the evaluator over its code, for each of the inputs that its guards let in, and the evaluator's word is the model's. -/
import Derived.Test.YtlibbfchncdimaaRows
import Derived.Test.YtlibbfchncdimaaVD
import Derived.WalkKit
import Derived.ProofKit
import Derived.OpenShut
import Derived.ShutString
import Derived.ChangeOld
import Derived.Below
import Derived.SizedLaws
namespace Go.Proofs.Ytlibbfchncdimaa.servicenone
open Go.ChangeShapes Go.WideShapes Go.ChangeAt Go.RowKit
open Go.ChangeMaps (open_string shut_string)
set_option linter.unusedVariables false
set_option linter.unusedSimpArgs false
theorem own : ownKnob Try.prog.godebug = none := by kernel_rfl
/-- What is told of functions without a body. -/
noncomputable abbrev ext : Vai.Extn := Vai.extAll
noncomputable def plainCall : Vai.CallF := Vai.evalFn Try.prog ext Vai.noSumm (Vai.drawD Try.prog ext) 60
theorem plain_ok (G : Vai.Sym) : Vai.CallOk Try.prog G plainCall := Vai.evalFn_ok Vai.extAll_ok trivial Vai.noSumm_ok (Vai.drawD_ok Vai.extAll_ok trivial) 60
set_option maxRecDepth 100000 in
theorem begun_true : Vai.saidOf (plainCall 6 #[] Vai.mem0) = some true := by kernel_rfl
noncomputable def lawCall : Vai.CallF := Vai.evalFn Try.prog ext (Vai.trueS 6) (Vai.drawD Try.prog ext) 60
theorem law_ok (G : Vai.Sym) : Vai.CallOk Try.prog G lawCall := Vai.evalFn_ok Vai.extAll_ok trivial (Vai.trueS_ok (plain_ok G) begun_true) (Vai.drawD_ok Vai.extAll_ok trivial) 60
set_option maxRecDepth 100000 in
theorem said_true : Vai.saidOf (lawCall 4 #[] Vai.mem0) = some true := by kernel_rfl
theorem walk (W : World) : Calls Try.prog 4 #[] W fun e w' => e = .returned (.bool true) ∧ Below W.heap.size W w' :=
  Vai.law_of_eval (law_ok fun _ => 0) (args := #[]) trivial said_true W
set_option maxRecDepth 100000 in
theorem lifted (os : Os) (started : os.Started) (H : Type) (enc : TypeId × Value → H) :
    ReturnsInHanded {} Try.checked os 4 .any (Rows.serviceNoneSpec.pre6 enc Try.prog Try.f4 Rows.serviceNoneRow.domain false) (Rows.serviceNoneSpec.post enc Try.prog Try.f4 false true false false) := by
  refine returnsInHanded_of_change_sized (C := Try.checked) own started (by kernel_rfl) Try.func4
    (ChangeSpec.witness6 (enc := enc) (C := Try.checked) false ⟨#[], #[], []⟩ 8 (by kernel_rfl) (by kernel_rfl) (by kernel_rfl) (by kernel_rfl)) ?_
  intro W base args ds gs before hval0 hW hcnd hsz0 _
  have hval : ∀ (j : Nat) t v, Try.f4.params[j]? = some t → args[j]? = some v → Value.okWide Try.prog W .any base t v := hval0
  have hW' := hW
  obtain ⟨p, q, hA0, hV, rfl, hfz, hnd⟩ := hW
  have hA : DataW.TrodAll enc Try.prog W 0 (fun _ => true) true Try.f4.params.toList args.toList ds p := hA0
  rw [Try.params4] at hA hval
  obtain ⟨rfl, rfl, rfl⟩ := trodAll_none hA
  obtain ⟨rfl, rfl⟩ := trodVars_none hV
  clear hA0 hval0 hsz0
  refine (walk   W).mono fun e W' ⟨he, bel⟩ => ?_
  subst he
  exact ⟨_, rfl, _, _, _, [], _, [], hW', trodAll_mk1 (shut_bool Try.underlying4 _), trodAll_mk0, rfl, bel.frame _, fun h => by cases h⟩
theorem over : Rows.serviceNoneRow.holds Try.pinned (OpenSpec.ofChange Rows.serviceNoneSpec) :=
  OpenClaim.holds_of_wide 4 Try.f4 rfl rfl rfl rfl rfl rfl rfl ⟨rfl, rfl, rfl, rfl, rfl⟩ rfl rfl rfl rfl rfl (by kernel_rfl) Try.func4 (by kernel_rfl)
    (of_decide_eq_true (by kernel_rfl)) (by unfold Func.isWrapper; first | (rw [if_pos (by decide +kernel)]; kernel_rfl) | (rw [if_neg (by decide +kernel)]; exact ⟨rfl, rfl⟩))
    (fun os started H enc _ => lifted os started H enc)
theorem proved : Rows.ServiceNoneSaid := over
end Go.Proofs.Ytlibbfchncdimaa.servicenone
namespace Go.Proofs.Ytlibbfchncdimaa
/-- The row, under a short name, for the claim. -/
theorem servicenone_holds : Rows.ServiceNoneSaid := servicenone.proved
end Go.Proofs.Ytlibbfchncdimaa
