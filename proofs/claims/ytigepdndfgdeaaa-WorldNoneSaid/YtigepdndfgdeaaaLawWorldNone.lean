/- The law WorldNone takes no argument: the kernel runs the evaluator over its code, and the evaluator's word is the model's. -/
import Derived.Test.YtigepdndfgdeaaaRows
import Derived.Test.YtigepdndfgdeaaaVD
import Derived.WalkKit
import Derived.ProofKit
import Derived.OpenShut
import Derived.ShutString
import Derived.ChangeOld
import Derived.Below
import Derived.SizedLaws
namespace Go.Proofs.Ytigepdndfgdeaaa.worldnone
open Go.ChangeShapes Go.WideShapes Go.ChangeAt Go.RowKit
open Go.ChangeMaps (open_string shut_string)
set_option linter.unusedVariables false
theorem own : ownKnob Try.prog.godebug = none := by kernel_rfl
/-- What is told of functions without a body. -/
noncomputable abbrev ext : Vai.Extn := Vai.extStd
theorem ext_ok : Vai.ExtOk Try.prog 4096 ext := Vai.extStd_ok
noncomputable def said : Option Bool := match Vai.evalFn Try.prog ext (Vai.drawD Try.prog ext) 60 5 #[] ⟨4096, .leaf⟩ with
  | some (.ret (.bool b), _) => some b
  | _ => none
set_option maxRecDepth 100000 in
theorem said_true : said = some true := by kernel_rfl
theorem walk (W : World) : Calls Try.prog 5 #[] W fun e w' => e = .returned (.bool true) ∧ Below W.heap.size W w' := by
  have hs := said_true
  unfold said at hs
  cases he : Vai.evalFn Try.prog ext (Vai.drawD Try.prog ext) 60 5 #[] ⟨4096, .leaf⟩ with
  | none => rw [he] at hs; cases hs
  | some p =>
    obtain ⟨r, σ⟩ := p
    rw [he] at hs
    have h0 : Vai.Rel 4096 (fun i => ⟨i, 0, 0⟩) W.heap.size ⟨4096, .leaf⟩ W :=
      ⟨fun g _ => ⟨rfl, rfl⟩, Nat.le_refl _, by decide, (fun id o ho => by rw [Vai.T.get_leaf] at ho; cases ho), (fun i j o p _ ho => by rw [Vai.T.get_leaf] at ho; cases ho), Nat.le_refl _⟩
    have hc := Vai.evalFn_ok ext_ok (Nat.le_refl _) (Vai.drawD_ok ext_ok (Nat.le_refl _)) 60 5 #[] ⟨4096, .leaf⟩ r σ he (fun i => ⟨i, 0, 0⟩) W.heap.size W h0 trivial
    refine Calls.mono hc ?_
    rintro en w' ⟨μ', hr, hx, hm⟩
    refine ⟨?_, hx.below h0⟩
    cases r with
    | panic => cases hs
    | ret v =>
      cases v <;> simp only at hs <;> (try (cases hs; done))
      cases hs
      exact hm.1
set_option maxRecDepth 100000 in
theorem lifted (os : Os) (started : os.Started) (H : Type) (enc : TypeId × Value → H) :
    ReturnsInHanded {} Try.checked os 5 .any (Rows.worldNoneSpec.pre6 enc Try.prog Try.f5 Rows.worldNoneRow.domain false) (Rows.worldNoneSpec.post enc Try.prog Try.f5 false true false false) := by
  refine returnsInHanded_of_change_sized (C := Try.checked) own started (by kernel_rfl) Try.func5
    (ChangeSpec.witness6 (enc := enc) (C := Try.checked) false ⟨#[], #[], []⟩ 8 (by kernel_rfl) (by kernel_rfl) (by kernel_rfl) (by kernel_rfl)) ?_
  intro W base args ds gs before hval0 hW hcnd hsz0 _
  have hW' := hW
  obtain ⟨p, q, hA0, hV, rfl, hfz, hnd⟩ := hW
  have hA : DataW.TrodAll enc Try.prog W 0 (fun _ => true) true Try.f5.params.toList args.toList ds p := hA0
  rw [Try.params5] at hA
  obtain ⟨rfl, rfl, rfl⟩ := trodAll_none hA
  obtain ⟨rfl, rfl⟩ := trodVars_none hV
  clear hA0 hval0 hsz0
  refine (walk W).mono fun e W' ⟨he, bel⟩ => ?_
  subst he
  exact ⟨_, rfl, _, _, _, [], _, [], hW', trodAll_mk1 (shut_bool Try.underlying4 _), trodAll_mk0, rfl, bel.frame _, fun h => by cases h⟩
theorem over : Rows.worldNoneRow.holds Try.pinned (OpenSpec.ofChange Rows.worldNoneSpec) :=
  OpenClaim.holds_of_wide 5 Try.f5 rfl rfl rfl rfl rfl rfl rfl ⟨rfl, rfl, rfl, rfl, rfl⟩ rfl rfl rfl rfl rfl (by kernel_rfl) Try.func5 (by kernel_rfl)
    (of_decide_eq_true (by kernel_rfl)) (by unfold Func.isWrapper; first | (rw [if_pos (by decide +kernel)]; kernel_rfl) | (rw [if_neg (by decide +kernel)]; exact ⟨rfl, rfl⟩))
    (fun os started H enc _ => lifted os started H enc)
theorem proved : Rows.WorldNoneSaid := over
end Go.Proofs.Ytigepdndfgdeaaa.worldnone
namespace Go.Proofs.Ytigepdndfgdeaaa
/-- The row, under a short name, for the claim. -/
theorem worldnone_holds : Rows.WorldNoneSaid := worldnone.proved
end Go.Proofs.Ytigepdndfgdeaaa
