/- The law PolicyPlaces: the kernel runs the evaluator over its code, for each of the inputs that its guards let in, and the evaluator's word is the model's; and the law's tied card. -/
import Derived.Test.YteeppbnkghokjaaDoorRows
import Derived.Test.YteeppbnkghokjaaDoorCards
import Derived.Test.YteeppbnkghokjaaDoorTie
import Derived.Test.YteeppbnkghokjaaDoorVD
import Derived.WalkKit
import Derived.ProofKit
import Derived.OpenShut
import Derived.ShutString
import Derived.ChangeOld
import Derived.Below
import Derived.SizedLaws
import Derived.Lay
import Derived.LaidOnce
import Derived.SevenTiedAt
namespace Go.Proofs.YteeppbnkghokjaaDoor.policyplaces
open Go.ChangeShapes Go.WideShapes Go.ChangeAt Go.RowKit
open Go.ChangeMaps (open_string shut_string)
set_option linter.unusedVariables false
set_option linter.unusedSimpArgs false
theorem own : ownKnob Tryd.prog.godebug = none := by kernel_rfl
/-- What is told of functions without a body. -/
noncomputable abbrev ext : Vai.Extn := Vai.extFull Tryd.prog
noncomputable def plainCall : Vai.CallF := Vai.evalFn Tryd.prog ext Vai.noSumm (Vai.drawD3 Tryd.prog ext) 600
theorem plain_ok (G : Vai.Sym) : Vai.CallOk Tryd.prog G plainCall := Vai.evalFn_ok Vai.extFull_ok trivial Vai.noSumm_ok (Vai.drawD3_ok Vai.extFull_ok trivial) 600
set_option maxRecDepth 100000 in
theorem begun_true : Vai.saidOf (plainCall 7 #[] Vai.mem0) = some true := by kernel_rfl
noncomputable def lawCall : Vai.CallF := Vai.evalFn Tryd.prog ext (Vai.trueS 7) (Vai.drawD3 Tryd.prog ext) 600
theorem law_ok (G : Vai.Sym) : Vai.CallOk Tryd.prog G lawCall := Vai.evalFn_ok Vai.extFull_ok trivial (Vai.trueS_ok (plain_ok G) begun_true) (Vai.drawD3_ok Vai.extFull_ok trivial) 600
set_option maxRecDepth 100000 in
theorem said_true : Vai.saidOf (lawCall 5 #[] Vai.mem0) = some true := by kernel_rfl
theorem walk (W : World) : Calls Tryd.prog 5 #[] W fun e w' => e = .returned (.bool true) ∧ Below W.heap.size W w' :=
  Vai.law_of_eval (law_ok fun _ => 0) (args := #[]) trivial said_true W
/-- What the row lists. -/
noncomputable def laid : List (String × DataW Unit) := Rows.policyPlacesRow.laid
set_option maxRecDepth 100000 in
theorem lifted (os : Os) (started : os.Started) (H : Type) (enc : TypeId × Value → H) :
    ReturnsInHanded {} Tryd.checked os 5 .any (fun w args => (Rows.policyPlacesSpec.pre enc Tryd.prog Tryd.f5 [] false w args ∧ laidMetH Tryd.prog laid w) ∧ sizedMet enc Tryd.prog Tryd.f5 (OpenSpec.ofChange Rows.policyPlacesSpec) false w args)
      (Rows.policyPlacesSpec.post enc Tryd.prog Tryd.f5 false true false false) := by
  refine returnsInHanded_of_change_and (C := Tryd.checked) (X := fun w _ => laidMetH Tryd.prog laid w) (fun _ _ _ hh h => h.of_heap hh) own started (by kernel_rfl) Tryd.func5
    (ChangeSpec.witness_shaped (enc := enc) (C := Tryd.checked) (os := os) (X := fun w _ => laidMetH Tryd.prog laid w) false (World.laidAll Tryd.prog os laid) #[] 8 (World.laidAll_os _ _ _)
      (World.shaped_of_ZipB (by kernel_rfl) (by kernel_rfl)) (by kernel_rfl) (by kernel_rfl) (by kernel_rfl)
      (by rw [MakeChecks.laidMetH_plain _ _ _ (by kernel_rfl)]; exact laidMet_laidAll _ (by kernel_rfl) (by kernel_rfl))) ?_
  intro W base args ds gs before hval0 hW _ _ hL _
  have hval : ∀ (j : Nat) t v, Tryd.f5.params[j]? = some t → args[j]? = some v → Value.okWide Tryd.prog W .any base t v := hval0
  have hW' := hW
  obtain ⟨p, q, hA0, hV, rfl, hfz, hnd⟩ := hW
  have hA : DataW.TrodAll enc Tryd.prog W 0 (fun _ => true) true Tryd.f5.params.toList args.toList ds p := hA0
  rw [Tryd.params5] at hA hval
  obtain ⟨rfl, rfl, rfl⟩ := trodAll_none hA
  obtain ⟨rfl, rfl⟩ := trodVars_none hV
  clear hA0 hval0
  refine (walk   W).mono fun e W' ⟨he, bel⟩ => ?_
  subst he
  exact ⟨_, rfl, _, _, _, [], _, [], hW', trodAll_mk1 (shut_bool Tryd.underlying4 _), trodAll_mk0, rfl, bel.frame _, fun h => by cases h⟩
theorem over : Rows.policyPlacesRow.holds Tryd.pinned (OpenSpec.ofChange Rows.policyPlacesSpec) :=
  OpenClaim.holds_of_wide 5 Tryd.f5 rfl rfl rfl rfl rfl rfl rfl ⟨rfl, rfl, rfl, rfl, rfl⟩ rfl rfl rfl rfl rfl (by kernel_rfl) Tryd.func5 (by kernel_rfl)
    (of_decide_eq_true (by kernel_rfl)) (by unfold Func.isWrapper; first | (rw [if_pos (by decide +kernel)]; kernel_rfl) | (rw [if_neg (by decide +kernel)]; exact ⟨rfl, rfl⟩))
    (fun os started H enc _ => lifted os started H enc)
theorem proved : Rows.PolicyPlacesCardSaid :=
  Claim7.holds_tied_plain_at .later [] [.data, .pinned, .pinned] true (true, "6d8a4965c56e3c1ff8a7a3177bb22b23f0ca1df52a2065121cad9d1bceef06ee") true over (fun _ h => by cases h) (by kernel_rfl) (fun _ h => by cases h) policyPlaces_row_tie rfl ⟨rfl, rfl⟩ (by kernel_rfl) rfl
    (fun f fn hf hfn => by
      obtain rfl : f = 5 := Option.some.inj ((show Tryd.prog.funcNamed "concierge/conciergelaw10.PolicyPlaces" = some 5 by kernel_rfl).symm.trans hf) |>.symm
      obtain rfl : fn = Tryd.f5 := (Option.some.inj (Tryd.func5.symm.trans hfn)).symm
      exact ⟨by kernel_rfl, fun j t ht => by
        rw [Tryd.params5] at ht
        exact absurd ht (by simp)⟩)
    (by kernel_rfl)
end Go.Proofs.YteeppbnkghokjaaDoor.policyplaces
namespace Go.Proofs.YteeppbnkghokjaaDoor
/-- The card, under a short name, for the claim. -/
theorem policyplaces_holds : Rows.PolicyPlacesCardSaid := policyplaces.proved
end Go.Proofs.YteeppbnkghokjaaDoor
