/- The law TopMerge: the kernel runs the evaluator over its code, for each of the inputs that its guards let in, and the evaluator's word is the model's; and the law's tied card. -/
import Derived.Test.YtpficieiefgbfaaGreatDoorRows
import Derived.Test.YtpficieiefgbfaaGreatDoorCards
import Derived.Test.YtpficieiefgbfaaGreatDoorTie
import Derived.Test.YtpficieiefgbfaaGreatDoorVG
import Derived.Test.YtpficieiefgbfaaGreatDoorTopMergeI0
import Derived.Test.YtpficieiefgbfaaGreatDoorTopMergeI1
import Derived.Test.YtpficieiefgbfaaGreatDoorTopMergeI2
import Derived.Test.YtpficieiefgbfaaGreatDoorTopMergeI3
import Derived.Test.YtpficieiefgbfaaGreatDoorTopMergeI4
import Derived.Test.YtpficieiefgbfaaGreatDoorTopMergeI5
import Derived.Test.YtpficieiefgbfaaGreatDoorTopMergeI6
import Derived.Test.YtpficieiefgbfaaGreatDoorTopMergeI7
import Derived.Test.YtpficieiefgbfaaGreatDoorTopMergeI8
import Derived.Test.YtpficieiefgbfaaGreatDoorTopMergeI9
import Derived.Test.YtpficieiefgbfaaGreatDoorTopMergeI10
import Derived.Test.YtpficieiefgbfaaGreatDoorTopMergeI11
import Derived.Test.YtpficieiefgbfaaGreatDoorTopMergeI12
import Derived.Test.YtpficieiefgbfaaGreatDoorTopMergeI13
import Derived.Test.YtpficieiefgbfaaGreatDoorTopMergeI14
import Derived.WalkKit
import Derived.ProofKit
import Derived.OpenShut
import Derived.ShutString
import Derived.ChangeOld
import Derived.Below
import Derived.SizedLaws
import Derived.Lay
import Derived.LaidOnce
import Derived.SevenTiedAt
namespace Go.Proofs.YtpficieiefgbfaaGreatDoor.topmerge
open Go.ChangeShapes Go.WideShapes Go.ChangeAt Go.RowKit
open Go.ChangeMaps (open_string shut_string)
set_option linter.unusedVariables false
set_option linter.unusedSimpArgs false
theorem own : ownKnob Tryz.prog.godebug = none := by kernel_rfl
theorem walk (a0 : Int) (a1 : Int) (w0 : (Lit.int .i64 a0).wf = true) (w1 : (Lit.int .i64 a1).wf = true) (W : World) (hgl : ∀ G, Vai.GOk G W top.gl) : Calls Tryz.prog 6 #[.int .i64 a0, .int .i64 a1] W fun e w' => e = .returned (.bool true) ∧ Below W.heap.size W w' := by
  have b0 : -9223372036854775808 ≤ a0 ∧ a0 ≤ 9223372036854775807 := by
    have h := w0
    simp only [Lit.wf, Bool.and_eq_true, decide_eq_true_eq] at h
    exact h
  have l0_200 : (a0.tmod 200).natAbs < 200 := by
    rw [Int.natAbs_tmod]
    exact Nat.mod_lt _ (by decide)
  generalize e0_200 : (a0.tmod 200).natAbs = v0_200 at l0_200
  have b1 : -9223372036854775808 ≤ a1 ∧ a1 ≤ 9223372036854775807 := by
    have h := w1
    simp only [Lit.wf, Bool.and_eq_true, decide_eq_true_eq] at h
    exact h
  have l1_200 : (a1.tmod 200).natAbs < 200 := by
    rw [Int.natAbs_tmod]
    exact Nat.mod_lt _ (by decide)
  generalize e1_200 : (a1.tmod 200).natAbs = v1_200 at l1_200
  have g0 : (0 ≤ v0_200 ∧ v0_200 < 10) ∨ (10 ≤ v0_200 ∧ v0_200 < 100) ∨ (100 ≤ v0_200 ∧ v0_200 < 200) := by omega
  rcases g0 with h | h | h
  ·
    have g1 : (0 ≤ v1_200 ∧ v1_200 < 10) ∨ (10 ≤ v1_200 ∧ v1_200 < 100) ∨ (100 ≤ v1_200 ∧ v1_200 < 200) := by omega
    rcases g1 with h | h | h
    ·
      have hcl : (0 ≤ v0_200 ∧ v0_200 < 10 ∧ v1_200 = v0_200) ∨ (0 ≤ v0_200 ∧ v0_200 < 9 ∧ 1 ≤ v1_200 ∧ v1_200 < 10 ∧ v0_200 < v1_200) ∨ (1 ≤ v0_200 ∧ v0_200 < 10 ∧ 0 ≤ v1_200 ∧ v1_200 < 9 ∧ v0_200 > v1_200) := by omega
      rcases hcl with h | h | h
      · exact _root_.Go.Proofs.YtpficieiefgbfaaGreatDoor.topmerge.e1.word a0 a1 (v0_200) (by omega)  b0 b1  (e0_200.trans (by omega)) (e1_200.trans (by omega)) W hgl
      · exact _root_.Go.Proofs.YtpficieiefgbfaaGreatDoor.topmerge.l1.word a0 a1 (v0_200) (v1_200) (by omega) (by omega) (by omega) b0 b1  (e0_200.trans (by omega)) (e1_200.trans (by omega)) W hgl
      · exact _root_.Go.Proofs.YtpficieiefgbfaaGreatDoor.topmerge.g1.word a0 a1 (v0_200) (v1_200) (by omega) (by omega) (by omega) b0 b1  (e0_200.trans (by omega)) (e1_200.trans (by omega)) W hgl
    ·
      have hcl : (0 ≤ v0_200 ∧ v0_200 < 10 ∧ 10 ≤ v1_200 ∧ v1_200 < 100) := by omega
      rcases hcl with h
      · exact _root_.Go.Proofs.YtpficieiefgbfaaGreatDoor.topmerge.d12.word a0 a1 (v0_200) (v1_200) (by omega) (by omega)  b0 b1  (e0_200.trans (by omega)) (e1_200.trans (by omega)) W hgl
    ·
      have hcl : (0 ≤ v0_200 ∧ v0_200 < 10 ∧ 100 ≤ v1_200 ∧ v1_200 < 200) := by omega
      rcases hcl with h
      · exact _root_.Go.Proofs.YtpficieiefgbfaaGreatDoor.topmerge.d13.word a0 a1 (v0_200) (v1_200) (by omega) (by omega)  b0 b1  (e0_200.trans (by omega)) (e1_200.trans (by omega)) W hgl
  ·
    have g1 : (0 ≤ v1_200 ∧ v1_200 < 10) ∨ (10 ≤ v1_200 ∧ v1_200 < 100) ∨ (100 ≤ v1_200 ∧ v1_200 < 200) := by omega
    rcases g1 with h | h | h
    ·
      have hcl : (10 ≤ v0_200 ∧ v0_200 < 100 ∧ 0 ≤ v1_200 ∧ v1_200 < 10) := by omega
      rcases hcl with h
      · exact _root_.Go.Proofs.YtpficieiefgbfaaGreatDoor.topmerge.d21.word a0 a1 (v0_200) (v1_200) (by omega) (by omega)  b0 b1  (e0_200.trans (by omega)) (e1_200.trans (by omega)) W hgl
    ·
      have hcl : (10 ≤ v0_200 ∧ v0_200 < 100 ∧ v1_200 = v0_200) ∨ (10 ≤ v0_200 ∧ v0_200 < 99 ∧ 11 ≤ v1_200 ∧ v1_200 < 100 ∧ v0_200 < v1_200) ∨ (11 ≤ v0_200 ∧ v0_200 < 100 ∧ 10 ≤ v1_200 ∧ v1_200 < 99 ∧ v0_200 > v1_200) := by omega
      rcases hcl with h | h | h
      · exact _root_.Go.Proofs.YtpficieiefgbfaaGreatDoor.topmerge.e2.word a0 a1 (v0_200) (by omega)  b0 b1  (e0_200.trans (by omega)) (e1_200.trans (by omega)) W hgl
      · exact _root_.Go.Proofs.YtpficieiefgbfaaGreatDoor.topmerge.l2.word a0 a1 (v0_200) (v1_200) (by omega) (by omega) (by omega) b0 b1  (e0_200.trans (by omega)) (e1_200.trans (by omega)) W hgl
      · exact _root_.Go.Proofs.YtpficieiefgbfaaGreatDoor.topmerge.g2.word a0 a1 (v0_200) (v1_200) (by omega) (by omega) (by omega) b0 b1  (e0_200.trans (by omega)) (e1_200.trans (by omega)) W hgl
    ·
      have hcl : (10 ≤ v0_200 ∧ v0_200 < 100 ∧ 100 ≤ v1_200 ∧ v1_200 < 200) := by omega
      rcases hcl with h
      · exact _root_.Go.Proofs.YtpficieiefgbfaaGreatDoor.topmerge.d23.word a0 a1 (v0_200) (v1_200) (by omega) (by omega)  b0 b1  (e0_200.trans (by omega)) (e1_200.trans (by omega)) W hgl
  ·
    have g1 : (0 ≤ v1_200 ∧ v1_200 < 10) ∨ (10 ≤ v1_200 ∧ v1_200 < 100) ∨ (100 ≤ v1_200 ∧ v1_200 < 200) := by omega
    rcases g1 with h | h | h
    ·
      have hcl : (100 ≤ v0_200 ∧ v0_200 < 200 ∧ 0 ≤ v1_200 ∧ v1_200 < 10) := by omega
      rcases hcl with h
      · exact _root_.Go.Proofs.YtpficieiefgbfaaGreatDoor.topmerge.d31.word a0 a1 (v0_200) (v1_200) (by omega) (by omega)  b0 b1  (e0_200.trans (by omega)) (e1_200.trans (by omega)) W hgl
    ·
      have hcl : (100 ≤ v0_200 ∧ v0_200 < 200 ∧ 10 ≤ v1_200 ∧ v1_200 < 100) := by omega
      rcases hcl with h
      · exact _root_.Go.Proofs.YtpficieiefgbfaaGreatDoor.topmerge.d32.word a0 a1 (v0_200) (v1_200) (by omega) (by omega)  b0 b1  (e0_200.trans (by omega)) (e1_200.trans (by omega)) W hgl
    ·
      have hcl : (100 ≤ v0_200 ∧ v0_200 < 200 ∧ v1_200 = v0_200) ∨ (100 ≤ v0_200 ∧ v0_200 < 199 ∧ 101 ≤ v1_200 ∧ v1_200 < 200 ∧ v0_200 < v1_200) ∨ (101 ≤ v0_200 ∧ v0_200 < 200 ∧ 100 ≤ v1_200 ∧ v1_200 < 199 ∧ v0_200 > v1_200) := by omega
      rcases hcl with h | h | h
      · exact _root_.Go.Proofs.YtpficieiefgbfaaGreatDoor.topmerge.e3.word a0 a1 (v0_200) (by omega)  b0 b1  (e0_200.trans (by omega)) (e1_200.trans (by omega)) W hgl
      · exact _root_.Go.Proofs.YtpficieiefgbfaaGreatDoor.topmerge.l3.word a0 a1 (v0_200) (v1_200) (by omega) (by omega) (by omega) b0 b1  (e0_200.trans (by omega)) (e1_200.trans (by omega)) W hgl
      · exact _root_.Go.Proofs.YtpficieiefgbfaaGreatDoor.topmerge.g3.word a0 a1 (v0_200) (v1_200) (by omega) (by omega) (by omega) b0 b1  (e0_200.trans (by omega)) (e1_200.trans (by omega)) W hgl
/-- What the row lists. -/
noncomputable def laid : List (String × DataW Unit) := Rows.topMergeRow.laid
set_option maxRecDepth 100000 in
theorem lifted (os : Os) (started : os.Started) (H : Type) (enc : TypeId × Value → H) :
    ReturnsInHanded {} Tryz.checked os 6 .any (fun w args => (Rows.topMergeSpec.pre enc Tryz.prog Tryz.f6 [] false w args ∧ laidMetH Tryz.prog laid w) ∧ sizedMet enc Tryz.prog Tryz.f6 (OpenSpec.ofChange Rows.topMergeSpec) false w args)
      (Rows.topMergeSpec.post enc Tryz.prog Tryz.f6 false true false false) := by
  refine Vai.returns_shaped (C := Tryz.checked) (X := fun w _ => laidMetH Tryz.prog laid w) (fun _ _ _ hh h => h.of_heap hh) own started (by kernel_rfl) Tryz.func6
    (ChangeSpec.witness_shaped (enc := enc) (C := Tryz.checked) (os := os) (X := fun w _ => laidMetH Tryz.prog laid w) false (World.laidAll Tryz.prog os laid) #[.int .i64 0, .int .i64 0] 8 (World.laidAll_os _ _ _)
      (World.shaped_of_ZipB (by kernel_rfl) (by kernel_rfl)) (by kernel_rfl) (by kernel_rfl) (by kernel_rfl)
      (by rw [MakeChecks.laidMetH_plain _ _ _ (by kernel_rfl)]; exact laidMet_laidAll _ (by kernel_rfl) (by kernel_rfl))) ?_
  intro W base args ds gs before hsh hval0 hW _ _ hL _
  have hval : ∀ (j : Nat) t v, Tryz.f6.params[j]? = some t → args[j]? = some v → Value.okWide Tryz.prog W .any base t v := hval0
  have hW' := hW
  obtain ⟨p, q, hA0, hV, rfl, hfz, hnd⟩ := hW
  have hA : DataW.TrodAll enc Tryz.prog W 0 (fun _ => true) true Tryz.f6.params.toList args.toList ds p := hA0
  rw [Tryz.params6] at hA hval
  obtain ⟨v0, vs0, d0, ds0, p0, q0, hargs, rfl, rfl, h0, r0⟩ := trodAll_cons hA
  obtain ⟨v1, vs1, d1, ds1, p1, q1, rfl, rfl, rfl, h1, r1⟩ := trodAll_cons r0
  obtain ⟨rfl, rfl, rfl⟩ := trodAll_nil r1
  obtain rfl : args = #[v0, v1] := by cases args; simp_all
  obtain ⟨rfl, rfl⟩ := trodVars_none hV
  obtain ⟨a0, rfl, rfl, rfl, w0⟩ := open_int Tryz.underlying3 (hval 0 3 v0 rfl rfl) h0
  obtain ⟨a1, rfl, rfl, rfl, w1⟩ := open_int Tryz.underlying3 (hval 1 3 v1 rfl rfl) h1
  clear hA0 hval0
  have hL' : laidMet Tryz.prog laid W := by
    rw [MakeChecks.laidMetH_plain _ _ _ (by kernel_rfl)] at hL
    exact hL
  have hgl : ∀ G, Vai.GOk G W top.gl := fun G => top.gl_ok G hsh (Lib.tabIs_of_head top.pow_g top.pow_ty Tryz.underlying456 Tryz.underlying328 top.pow_ce top.pow_ct (laidMet.tail (laidMet.tail hL')))
  refine (walk a0 a1 w0 w1 W hgl).mono fun e W' ⟨he, bel⟩ => ?_
  subst he
  exact ⟨_, rfl, _, _, _, [], _, [], hW', trodAll_mk1 (shut_bool Tryz.underlying4 _), (trodAll_cons_mk (shut_int Tryz.underlying3 w0) (trodAll_cons_mk (shut_int Tryz.underlying3 w1) trodAll_mk0)), rfl, bel.frame _, fun h => by cases h⟩
end Go.Proofs.YtpficieiefgbfaaGreatDoor.topmerge
