/- The law TopFiles: the kernel runs the evaluator over its code, for each of the inputs that its guards let in, and the evaluator's word is the model's; and the law's tied card. -/
import Derived.Test.YtpficieiefgbfaaGreatDoorRows
import Derived.Test.YtpficieiefgbfaaGreatDoorCards
import Derived.Test.YtpficieiefgbfaaGreatDoorTie
import Derived.Test.YtpficieiefgbfaaGreatDoorVG
import Derived.Test.YtpficieiefgbfaaGreatDoorTopFilesI0
import Derived.Test.YtpficieiefgbfaaGreatDoorTopFilesI1
import Derived.Test.YtpficieiefgbfaaGreatDoorTopFilesI2
import Derived.Test.YtpficieiefgbfaaGreatDoorTopFilesI3
import Derived.Test.YtpficieiefgbfaaGreatDoorTopFilesI4
import Derived.Test.YtpficieiefgbfaaGreatDoorTopFilesI5
import Derived.Test.YtpficieiefgbfaaGreatDoorTopFilesI6
import Derived.Test.YtpficieiefgbfaaGreatDoorTopFilesI7
import Derived.Test.YtpficieiefgbfaaGreatDoorTopFilesI8
import Derived.WalkKit
import Derived.ProofKit
import Derived.OpenShut
import Derived.ShutString
import Derived.ChangeOld
import Derived.Below
import Derived.SizedLaws
import Derived.Lay
import Derived.LaidOnce
import Derived.SevenTiedAt
namespace Go.Proofs.YtpficieiefgbfaaGreatDoor.topfiles
open Go.ChangeShapes Go.WideShapes Go.ChangeAt Go.RowKit
open Go.ChangeMaps (open_string shut_string)
set_option linter.unusedVariables false
set_option linter.unusedSimpArgs false
theorem own : ownKnob Tryz.prog.godebug = none := by kernel_rfl
theorem walk (a0 : Int) (a1 : Int) (w0 : (Lit.int .i64 a0).wf = true) (w1 : (Lit.int .i64 a1).wf = true) (W : World) (hgl : ∀ G, Vai.GOk G W top.gl) : Calls Tryz.prog 5 #[.int .i64 a0, .int .i64 a1] W fun e w' => e = .returned (.bool true) ∧ Below W.heap.size W w' := by
  have b0 : -9223372036854775808 ≤ a0 ∧ a0 ≤ 9223372036854775807 := by
    have h := w0
    simp only [Lit.wf, Bool.and_eq_true, decide_eq_true_eq] at h
    exact h
  have l0 : (a0.tmod 250).natAbs < 250 := by
    rw [Int.natAbs_tmod]
    exact Nat.mod_lt _ (by decide)
  generalize e0 : (a0.tmod 250).natAbs = v0 at l0
  have b1 : -9223372036854775808 ≤ a1 ∧ a1 ≤ 9223372036854775807 := by
    have h := w1
    simp only [Lit.wf, Bool.and_eq_true, decide_eq_true_eq] at h
    exact h
  have l1 : (a1.tmod 250).natAbs < 250 := by
    rw [Int.natAbs_tmod]
    exact Nat.mod_lt _ (by decide)
  generalize e1 : (a1.tmod 250).natAbs = v1 at l1
  have hcl : (0 ≤ v0 ∧ v0 < 10 ∧ 0 ≤ v1 ∧ v1 < 10) ∨ (0 ≤ v0 ∧ v0 < 10 ∧ 10 ≤ v1 ∧ v1 < 100) ∨ (0 ≤ v0 ∧ v0 < 10 ∧ 100 ≤ v1 ∧ v1 < 250) ∨ (10 ≤ v0 ∧ v0 < 100 ∧ 0 ≤ v1 ∧ v1 < 10) ∨ (10 ≤ v0 ∧ v0 < 100 ∧ 10 ≤ v1 ∧ v1 < 100) ∨ (10 ≤ v0 ∧ v0 < 100 ∧ 100 ≤ v1 ∧ v1 < 250) ∨ (100 ≤ v0 ∧ v0 < 250 ∧ 0 ≤ v1 ∧ v1 < 10) ∨ (100 ≤ v0 ∧ v0 < 250 ∧ 10 ≤ v1 ∧ v1 < 100) ∨ (100 ≤ v0 ∧ v0 < 250 ∧ 100 ≤ v1 ∧ v1 < 250) := by omega
  rcases hcl with h | h | h | h | h | h | h | h | h
  · exact d11.word a0 a1 v0 v1 (by omega) (by omega)  b0 b1 (e0.trans (by omega)) (e1.trans (by omega)) W hgl
  · exact d12.word a0 a1 v0 v1 (by omega) (by omega)  b0 b1 (e0.trans (by omega)) (e1.trans (by omega)) W hgl
  · exact d13.word a0 a1 v0 v1 (by omega) (by omega)  b0 b1 (e0.trans (by omega)) (e1.trans (by omega)) W hgl
  · exact d21.word a0 a1 v0 v1 (by omega) (by omega)  b0 b1 (e0.trans (by omega)) (e1.trans (by omega)) W hgl
  · exact d22.word a0 a1 v0 v1 (by omega) (by omega)  b0 b1 (e0.trans (by omega)) (e1.trans (by omega)) W hgl
  · exact d23.word a0 a1 v0 v1 (by omega) (by omega)  b0 b1 (e0.trans (by omega)) (e1.trans (by omega)) W hgl
  · exact d31.word a0 a1 v0 v1 (by omega) (by omega)  b0 b1 (e0.trans (by omega)) (e1.trans (by omega)) W hgl
  · exact d32.word a0 a1 v0 v1 (by omega) (by omega)  b0 b1 (e0.trans (by omega)) (e1.trans (by omega)) W hgl
  · exact d33.word a0 a1 v0 v1 (by omega) (by omega)  b0 b1 (e0.trans (by omega)) (e1.trans (by omega)) W hgl
/-- What the row lists. -/
noncomputable def laid : List (String × DataW Unit) := Rows.topFilesRow.laid
set_option maxRecDepth 100000 in
theorem lifted (os : Os) (started : os.Started) (H : Type) (enc : TypeId × Value → H) :
    ReturnsInHanded {} Tryz.checked os 5 .any (fun w args => (Rows.topFilesSpec.pre enc Tryz.prog Tryz.f5 [] false w args ∧ laidMetH Tryz.prog laid w) ∧ sizedMet enc Tryz.prog Tryz.f5 (OpenSpec.ofChange Rows.topFilesSpec) false w args)
      (Rows.topFilesSpec.post enc Tryz.prog Tryz.f5 false true false false) := by
  refine Vai.returns_shaped (C := Tryz.checked) (X := fun w _ => laidMetH Tryz.prog laid w) (fun _ _ _ hh h => h.of_heap hh) own started (by kernel_rfl) Tryz.func5
    (ChangeSpec.witness_shaped (enc := enc) (C := Tryz.checked) (os := os) (X := fun w _ => laidMetH Tryz.prog laid w) false (World.laidAll Tryz.prog os laid) #[.int .i64 0, .int .i64 0] 8 (World.laidAll_os _ _ _)
      (World.shaped_of_ZipB (by kernel_rfl) (by kernel_rfl)) (by kernel_rfl) (by kernel_rfl) (by kernel_rfl)
      (by rw [MakeChecks.laidMetH_plain _ _ _ (by kernel_rfl)]; exact laidMet_laidAll _ (by kernel_rfl) (by kernel_rfl))) ?_
  intro W base args ds gs before hsh hval0 hW _ _ hL _
  have hval : ∀ (j : Nat) t v, Tryz.f5.params[j]? = some t → args[j]? = some v → Value.okWide Tryz.prog W .any base t v := hval0
  have hW' := hW
  obtain ⟨p, q, hA0, hV, rfl, hfz, hnd⟩ := hW
  have hA : DataW.TrodAll enc Tryz.prog W 0 (fun _ => true) true Tryz.f5.params.toList args.toList ds p := hA0
  rw [Tryz.params5] at hA hval
  obtain ⟨v0, vs0, d0, ds0, p0, q0, hargs, rfl, rfl, h0, r0⟩ := trodAll_cons hA
  obtain ⟨v1, vs1, d1, ds1, p1, q1, rfl, rfl, rfl, h1, r1⟩ := trodAll_cons r0
  obtain ⟨rfl, rfl, rfl⟩ := trodAll_nil r1
  obtain rfl : args = #[v0, v1] := by cases args; simp_all
  obtain ⟨rfl, rfl⟩ := trodVars_none hV
  obtain ⟨a0, rfl, rfl, rfl, w0⟩ := open_int Tryz.underlying3 (hval 0 3 v0 rfl rfl) h0
  obtain ⟨a1, rfl, rfl, rfl, w1⟩ := open_int Tryz.underlying3 (hval 1 3 v1 rfl rfl) h1
  clear hA0 hval0
  have hL' : laidMet Tryz.prog laid W := by
    rw [MakeChecks.laidMetH_plain _ _ _ (by kernel_rfl)] at hL
    exact hL
  have hgl : ∀ G, Vai.GOk G W top.gl := fun G => top.gl_ok G hsh (Lib.tabIs_of_head top.pow_g top.pow_ty Tryz.underlying456 Tryz.underlying328 top.pow_ce top.pow_ct (laidMet.tail (laidMet.tail hL')))
  refine (walk a0 a1 w0 w1 W hgl).mono fun e W' ⟨he, bel⟩ => ?_
  subst he
  exact ⟨_, rfl, _, _, _, [], _, [], hW', trodAll_mk1 (shut_bool Tryz.underlying4 _), (trodAll_cons_mk (shut_int Tryz.underlying3 w0) (trodAll_cons_mk (shut_int Tryz.underlying3 w1) trodAll_mk0)), rfl, bel.frame _, fun h => by cases h⟩
end Go.Proofs.YtpficieiefgbfaaGreatDoor.topfiles
