/- The law TopDepends: the kernel runs the evaluator over its code, for each of the inputs that its guards let in, and the evaluator's word is the model's; and the law's tied card. -/
import Derived.Test.YtpficieiefgbfaaGreatDoorRows
import Derived.Test.YtpficieiefgbfaaGreatDoorCards
import Derived.Test.YtpficieiefgbfaaGreatDoorTie
import Derived.Test.YtpficieiefgbfaaGreatDoorVG
import Derived.Test.YtpficieiefgbfaaGreatDoorTopDependsI0
import Derived.Test.YtpficieiefgbfaaGreatDoorTopDependsI1
import Derived.Test.YtpficieiefgbfaaGreatDoorTopDependsI2
import Derived.WalkKit
import Derived.ProofKit
import Derived.OpenShut
import Derived.ShutString
import Derived.ChangeOld
import Derived.Below
import Derived.SizedLaws
import Derived.Lay
import Derived.LaidOnce
import Derived.SevenTiedAt
namespace Go.Proofs.YtpficieiefgbfaaGreatDoor.topdepends
open Go.ChangeShapes Go.WideShapes Go.ChangeAt Go.RowKit
open Go.ChangeMaps (open_string shut_string)
set_option linter.unusedVariables false
set_option linter.unusedSimpArgs false
theorem own : ownKnob Tryz.prog.godebug = none := by kernel_rfl
theorem walk (a0 : Int) (w0 : (Lit.int .i64 a0).wf = true) (W : World) (hgl : ∀ G, Vai.GOk G W top.gl) : Calls Tryz.prog 7 #[.int .i64 a0] W fun e w' => e = .returned (.bool true) ∧ Below W.heap.size W w' := by
  have b0 : -9223372036854775808 ≤ a0 ∧ a0 ≤ 9223372036854775807 := by
    have h := w0
    simp only [Lit.wf, Bool.and_eq_true, decide_eq_true_eq] at h
    exact h
  have l0 : (a0.tmod 250).natAbs < 250 := by
    rw [Int.natAbs_tmod]
    exact Nat.mod_lt _ (by decide)
  generalize e0 : (a0.tmod 250).natAbs = v0 at l0
  have hcl : (0 ≤ v0 ∧ v0 < 8) ∨ (8 ≤ v0 ∧ v0 < 98) ∨ (98 ≤ v0 ∧ v0 < 250) := by omega
  rcases hcl with h | h | h
  · exact d1.word a0 v0 (by omega)  b0 (e0.trans (by omega)) W hgl
  · exact d2.word a0 v0 (by omega)  b0 (e0.trans (by omega)) W hgl
  · exact d3.word a0 v0 (by omega)  b0 (e0.trans (by omega)) W hgl
/-- What the row lists. -/
noncomputable def laid : List (String × DataW Unit) := Rows.topDependsRow.laid
set_option maxRecDepth 100000 in
theorem lifted (os : Os) (started : os.Started) (H : Type) (enc : TypeId × Value → H) :
    ReturnsInHanded {} Tryz.checked os 7 .any (fun w args => (Rows.topDependsSpec.pre enc Tryz.prog Tryz.f7 [] false w args ∧ laidMetH Tryz.prog laid w) ∧ sizedMet enc Tryz.prog Tryz.f7 (OpenSpec.ofChange Rows.topDependsSpec) false w args)
      (Rows.topDependsSpec.post enc Tryz.prog Tryz.f7 false true false false) := by
  refine Vai.returns_shaped (C := Tryz.checked) (X := fun w _ => laidMetH Tryz.prog laid w) (fun _ _ _ hh h => h.of_heap hh) own started (by kernel_rfl) Tryz.func7
    (ChangeSpec.witness_shaped (enc := enc) (C := Tryz.checked) (os := os) (X := fun w _ => laidMetH Tryz.prog laid w) false (World.laidAll Tryz.prog os laid) #[.int .i64 0] 8 (World.laidAll_os _ _ _)
      (World.shaped_of_ZipB (by kernel_rfl) (by kernel_rfl)) (by kernel_rfl) (by kernel_rfl) (by kernel_rfl)
      (by rw [MakeChecks.laidMetH_plain _ _ _ (by kernel_rfl)]; exact laidMet_laidAll _ (by kernel_rfl) (by kernel_rfl))) ?_
  intro W base args ds gs before hsh hval0 hW _ _ hL _
  have hval : ∀ (j : Nat) t v, Tryz.f7.params[j]? = some t → args[j]? = some v → Value.okWide Tryz.prog W .any base t v := hval0
  have hW' := hW
  obtain ⟨p, q, hA0, hV, rfl, hfz, hnd⟩ := hW
  have hA : DataW.TrodAll enc Tryz.prog W 0 (fun _ => true) true Tryz.f7.params.toList args.toList ds p := hA0
  rw [Tryz.params7] at hA hval
  obtain ⟨v0, vs0, d0, ds0, p0, q0, hargs, rfl, rfl, h0, r0⟩ := trodAll_cons hA
  obtain ⟨rfl, rfl, rfl⟩ := trodAll_nil r0
  obtain rfl : args = #[v0] := by cases args; simp_all
  obtain ⟨rfl, rfl⟩ := trodVars_none hV
  obtain ⟨a0, rfl, rfl, rfl, w0⟩ := open_int Tryz.underlying3 (hval 0 3 v0 rfl rfl) h0
  clear hA0 hval0
  have hL' : laidMet Tryz.prog laid W := by
    rw [MakeChecks.laidMetH_plain _ _ _ (by kernel_rfl)] at hL
    exact hL
  have hgl : ∀ G, Vai.GOk G W top.gl := fun G => top.gl_ok G hsh (Lib.tabIs_of_head top.pow_g top.pow_ty Tryz.underlying456 Tryz.underlying328 top.pow_ce top.pow_ct (laidMet.tail (laidMet.tail hL')))
  refine (walk a0 w0 W hgl).mono fun e W' ⟨he, bel⟩ => ?_
  subst he
  exact ⟨_, rfl, _, _, _, [], _, [], hW', trodAll_mk1 (shut_bool Tryz.underlying4 _), (trodAll_cons_mk (shut_int Tryz.underlying3 w0) trodAll_mk0), rfl, bel.frame _, fun h => by cases h⟩
end Go.Proofs.YtpficieiefgbfaaGreatDoor.topdepends
