/- The law TopLasts: the kernel runs the evaluator over its code, for each of the inputs that its guards let in, and the evaluator's word is the model's; and the law's tied card. -/
import Derived.Test.YtemmgompegkgkaaGreatDoorRows
import Derived.Test.YtemmgompegkgkaaGreatDoorCards
import Derived.Test.YtemmgompegkgkaaGreatDoorTie
import Derived.Test.YtemmgompegkgkaaGreatDoorVG
import Derived.Test.YtemmgompegkgkaaGreatDoorTopLastsI0
import Derived.Test.YtemmgompegkgkaaGreatDoorTopLastsI1
import Derived.Test.YtemmgompegkgkaaGreatDoorTopLastsI2
import Derived.Test.YtemmgompegkgkaaGreatDoorTopLastsI3
import Derived.Test.YtemmgompegkgkaaGreatDoorTopLastsI4
import Derived.Test.YtemmgompegkgkaaGreatDoorTopLastsI5
import Derived.Test.YtemmgompegkgkaaGreatDoorTopLastsI6
import Derived.Test.YtemmgompegkgkaaGreatDoorTopLastsI7
import Derived.Test.YtemmgompegkgkaaGreatDoorTopLastsI8
import Derived.Test.YtemmgompegkgkaaGreatDoorTopLastsI9
import Derived.Test.YtemmgompegkgkaaGreatDoorTopLastsI10
import Derived.Test.YtemmgompegkgkaaGreatDoorTopLastsI11
import Derived.WalkKit
import Derived.ProofKit
import Derived.OpenShut
import Derived.ShutString
import Derived.ChangeOld
import Derived.Below
import Derived.SizedLaws
import Derived.Lay
import Derived.LaidOnce
import Derived.SevenTiedAt
namespace Go.Proofs.YtemmgompegkgkaaGreatDoor.toplasts
open Go.ChangeShapes Go.WideShapes Go.ChangeAt Go.RowKit
open Go.ChangeMaps (open_string shut_string)
set_option linter.unusedVariables false
set_option linter.unusedSimpArgs false
theorem own : ownKnob Tryz.prog.godebug = none := by kernel_rfl
theorem walk (a0 : Int) (a1 : Int) (a2 : Bool) (w0 : (Lit.int .i64 a0).wf = true) (w1 : (Lit.int .i64 a1).wf = true) (W : World) (hgl : ∀ G, Vai.GOk G W top.gl) : Calls Tryz.prog 3 #[.int .i64 a0, .int .i64 a1, .bool a2] W fun e w' => e = .returned (.bool true) ∧ Below W.heap.size W w' := by
  have b0 : -9223372036854775808 ≤ a0 ∧ a0 ≤ 9223372036854775807 := by
    have h := w0
    simp only [Lit.wf, Bool.and_eq_true, decide_eq_true_eq] at h
    exact h
  have l0_250 : (a0.tmod 250).natAbs < 250 := by
    rw [Int.natAbs_tmod]
    exact Nat.mod_lt _ (by decide)
  generalize e0_250 : (a0.tmod 250).natAbs = v0_250 at l0_250
  have b1 : -9223372036854775808 ≤ a1 ∧ a1 ≤ 9223372036854775807 := by
    have h := w1
    simp only [Lit.wf, Bool.and_eq_true, decide_eq_true_eq] at h
    exact h
  have l1_900 : (a1.tmod 900).natAbs < 900 := by
    rw [Int.natAbs_tmod]
    exact Nat.mod_lt _ (by decide)
  generalize e1_900 : (a1.tmod 900).natAbs = v1_900 at l1_900
  cases a2
  ·
    have g0 : (0 ≤ v0_250 ∧ v0_250 < 10) ∨ (10 ≤ v0_250 ∧ v0_250 < 100) ∨ (100 ≤ v0_250 ∧ v0_250 < 250) := by omega
    rcases g0 with h | h | h
    ·
      have hcl : (0 ≤ v0_250 ∧ v0_250 < 10 ∧ v1_900 = 0) ∨ (0 ≤ v0_250 ∧ v0_250 < 10 ∧ 1 ≤ v1_900 ∧ v1_900 < 600) ∨ (0 ≤ v0_250 ∧ v0_250 < 10 ∧ v1_900 = 600) ∨ (0 ≤ v0_250 ∧ v0_250 < 10 ∧ 601 ≤ v1_900 ∧ v1_900 < 900) := by omega
      rcases hcl with h | h | h | h
      · exact _root_.Go.Proofs.YtemmgompegkgkaaGreatDoor.toplasts.d1w0f.word a0 a1 (v0_250) (by omega)  b0 b1  (e0_250.trans (by omega)) (e1_900.trans (by omega)) W hgl
      · exact _root_.Go.Proofs.YtemmgompegkgkaaGreatDoor.toplasts.d1w1f.word a0 a1 (v0_250) (v1_900) (by omega) (by omega)  b0 b1  (e0_250.trans (by omega)) (e1_900.trans (by omega)) W hgl
      · exact _root_.Go.Proofs.YtemmgompegkgkaaGreatDoor.toplasts.d1w2f.word a0 a1 (v0_250) (by omega)  b0 b1  (e0_250.trans (by omega)) (e1_900.trans (by omega)) W hgl
      · exact _root_.Go.Proofs.YtemmgompegkgkaaGreatDoor.toplasts.d1w3f.word a0 a1 (v0_250) (v1_900) (by omega) (by omega)  b0 b1  (e0_250.trans (by omega)) (e1_900.trans (by omega)) W hgl
    ·
      have hcl : (10 ≤ v0_250 ∧ v0_250 < 100 ∧ v1_900 = 0) ∨ (10 ≤ v0_250 ∧ v0_250 < 100 ∧ 1 ≤ v1_900 ∧ v1_900 < 600) ∨ (10 ≤ v0_250 ∧ v0_250 < 100 ∧ v1_900 = 600) ∨ (10 ≤ v0_250 ∧ v0_250 < 100 ∧ 601 ≤ v1_900 ∧ v1_900 < 900) := by omega
      rcases hcl with h | h | h | h
      · exact _root_.Go.Proofs.YtemmgompegkgkaaGreatDoor.toplasts.d2w0f.word a0 a1 (v0_250) (by omega)  b0 b1  (e0_250.trans (by omega)) (e1_900.trans (by omega)) W hgl
      · exact _root_.Go.Proofs.YtemmgompegkgkaaGreatDoor.toplasts.d2w1f.word a0 a1 (v0_250) (v1_900) (by omega) (by omega)  b0 b1  (e0_250.trans (by omega)) (e1_900.trans (by omega)) W hgl
      · exact _root_.Go.Proofs.YtemmgompegkgkaaGreatDoor.toplasts.d2w2f.word a0 a1 (v0_250) (by omega)  b0 b1  (e0_250.trans (by omega)) (e1_900.trans (by omega)) W hgl
      · exact _root_.Go.Proofs.YtemmgompegkgkaaGreatDoor.toplasts.d2w3f.word a0 a1 (v0_250) (v1_900) (by omega) (by omega)  b0 b1  (e0_250.trans (by omega)) (e1_900.trans (by omega)) W hgl
    ·
      have hcl : (100 ≤ v0_250 ∧ v0_250 < 250 ∧ v1_900 = 0) ∨ (100 ≤ v0_250 ∧ v0_250 < 250 ∧ 1 ≤ v1_900 ∧ v1_900 < 600) ∨ (100 ≤ v0_250 ∧ v0_250 < 250 ∧ v1_900 = 600) ∨ (100 ≤ v0_250 ∧ v0_250 < 250 ∧ 601 ≤ v1_900 ∧ v1_900 < 900) := by omega
      rcases hcl with h | h | h | h
      · exact _root_.Go.Proofs.YtemmgompegkgkaaGreatDoor.toplasts.d3w0f.word a0 a1 (v0_250) (by omega)  b0 b1  (e0_250.trans (by omega)) (e1_900.trans (by omega)) W hgl
      · exact _root_.Go.Proofs.YtemmgompegkgkaaGreatDoor.toplasts.d3w1f.word a0 a1 (v0_250) (v1_900) (by omega) (by omega)  b0 b1  (e0_250.trans (by omega)) (e1_900.trans (by omega)) W hgl
      · exact _root_.Go.Proofs.YtemmgompegkgkaaGreatDoor.toplasts.d3w2f.word a0 a1 (v0_250) (by omega)  b0 b1  (e0_250.trans (by omega)) (e1_900.trans (by omega)) W hgl
      · exact _root_.Go.Proofs.YtemmgompegkgkaaGreatDoor.toplasts.d3w3f.word a0 a1 (v0_250) (v1_900) (by omega) (by omega)  b0 b1  (e0_250.trans (by omega)) (e1_900.trans (by omega)) W hgl
  ·
    have g0 : (0 ≤ v0_250 ∧ v0_250 < 10) ∨ (10 ≤ v0_250 ∧ v0_250 < 100) ∨ (100 ≤ v0_250 ∧ v0_250 < 250) := by omega
    rcases g0 with h | h | h
    ·
      have hcl : (0 ≤ v0_250 ∧ v0_250 < 10 ∧ v1_900 = 0) ∨ (0 ≤ v0_250 ∧ v0_250 < 10 ∧ 1 ≤ v1_900 ∧ v1_900 < 600) ∨ (0 ≤ v0_250 ∧ v0_250 < 10 ∧ v1_900 = 600) ∨ (0 ≤ v0_250 ∧ v0_250 < 10 ∧ 601 ≤ v1_900 ∧ v1_900 < 900) := by omega
      rcases hcl with h | h | h | h
      · exact _root_.Go.Proofs.YtemmgompegkgkaaGreatDoor.toplasts.d1w0t.word a0 a1 (v0_250) (by omega)  b0 b1  (e0_250.trans (by omega)) (e1_900.trans (by omega)) W hgl
      · exact _root_.Go.Proofs.YtemmgompegkgkaaGreatDoor.toplasts.d1w1t.word a0 a1 (v0_250) (v1_900) (by omega) (by omega)  b0 b1  (e0_250.trans (by omega)) (e1_900.trans (by omega)) W hgl
      · exact _root_.Go.Proofs.YtemmgompegkgkaaGreatDoor.toplasts.d1w2t.word a0 a1 (v0_250) (by omega)  b0 b1  (e0_250.trans (by omega)) (e1_900.trans (by omega)) W hgl
      · exact _root_.Go.Proofs.YtemmgompegkgkaaGreatDoor.toplasts.d1w3t.word a0 a1 (v0_250) (v1_900) (by omega) (by omega)  b0 b1  (e0_250.trans (by omega)) (e1_900.trans (by omega)) W hgl
    ·
      have hcl : (10 ≤ v0_250 ∧ v0_250 < 100 ∧ v1_900 = 0) ∨ (10 ≤ v0_250 ∧ v0_250 < 100 ∧ 1 ≤ v1_900 ∧ v1_900 < 600) ∨ (10 ≤ v0_250 ∧ v0_250 < 100 ∧ v1_900 = 600) ∨ (10 ≤ v0_250 ∧ v0_250 < 100 ∧ 601 ≤ v1_900 ∧ v1_900 < 900) := by omega
      rcases hcl with h | h | h | h
      · exact _root_.Go.Proofs.YtemmgompegkgkaaGreatDoor.toplasts.d2w0t.word a0 a1 (v0_250) (by omega)  b0 b1  (e0_250.trans (by omega)) (e1_900.trans (by omega)) W hgl
      · exact _root_.Go.Proofs.YtemmgompegkgkaaGreatDoor.toplasts.d2w1t.word a0 a1 (v0_250) (v1_900) (by omega) (by omega)  b0 b1  (e0_250.trans (by omega)) (e1_900.trans (by omega)) W hgl
      · exact _root_.Go.Proofs.YtemmgompegkgkaaGreatDoor.toplasts.d2w2t.word a0 a1 (v0_250) (by omega)  b0 b1  (e0_250.trans (by omega)) (e1_900.trans (by omega)) W hgl
      · exact _root_.Go.Proofs.YtemmgompegkgkaaGreatDoor.toplasts.d2w3t.word a0 a1 (v0_250) (v1_900) (by omega) (by omega)  b0 b1  (e0_250.trans (by omega)) (e1_900.trans (by omega)) W hgl
    ·
      have hcl : (100 ≤ v0_250 ∧ v0_250 < 250 ∧ v1_900 = 0) ∨ (100 ≤ v0_250 ∧ v0_250 < 250 ∧ 1 ≤ v1_900 ∧ v1_900 < 600) ∨ (100 ≤ v0_250 ∧ v0_250 < 250 ∧ v1_900 = 600) ∨ (100 ≤ v0_250 ∧ v0_250 < 250 ∧ 601 ≤ v1_900 ∧ v1_900 < 900) := by omega
      rcases hcl with h | h | h | h
      · exact _root_.Go.Proofs.YtemmgompegkgkaaGreatDoor.toplasts.d3w0t.word a0 a1 (v0_250) (by omega)  b0 b1  (e0_250.trans (by omega)) (e1_900.trans (by omega)) W hgl
      · exact _root_.Go.Proofs.YtemmgompegkgkaaGreatDoor.toplasts.d3w1t.word a0 a1 (v0_250) (v1_900) (by omega) (by omega)  b0 b1  (e0_250.trans (by omega)) (e1_900.trans (by omega)) W hgl
      · exact _root_.Go.Proofs.YtemmgompegkgkaaGreatDoor.toplasts.d3w2t.word a0 a1 (v0_250) (by omega)  b0 b1  (e0_250.trans (by omega)) (e1_900.trans (by omega)) W hgl
      · exact _root_.Go.Proofs.YtemmgompegkgkaaGreatDoor.toplasts.d3w3t.word a0 a1 (v0_250) (v1_900) (by omega) (by omega)  b0 b1  (e0_250.trans (by omega)) (e1_900.trans (by omega)) W hgl
/-- What the row lists. -/
noncomputable def laid : List (String × DataW Unit) := Rows.topLastsRow.laid
set_option maxRecDepth 100000 in
theorem lifted (os : Os) (started : os.Started) (H : Type) (enc : TypeId × Value → H) :
    ReturnsInHanded {} Tryz.checked os 3 .any (fun w args => (Rows.topLastsSpec.pre enc Tryz.prog Tryz.f3 [] false w args ∧ laidMetH Tryz.prog laid w) ∧ sizedMet enc Tryz.prog Tryz.f3 (OpenSpec.ofChange Rows.topLastsSpec) false w args)
      (Rows.topLastsSpec.post enc Tryz.prog Tryz.f3 false true false false) := by
  refine Vai.returns_shaped (C := Tryz.checked) (X := fun w _ => laidMetH Tryz.prog laid w) (fun _ _ _ hh h => h.of_heap hh) own started (by kernel_rfl) Tryz.func3
    (ChangeSpec.witness_shaped (enc := enc) (C := Tryz.checked) (os := os) (X := fun w _ => laidMetH Tryz.prog laid w) false (World.laidAll Tryz.prog os laid) #[.int .i64 0, .int .i64 0, .bool false] 8 (World.laidAll_os _ _ _)
      (World.shaped_of_ZipB (by kernel_rfl) (by kernel_rfl)) (by kernel_rfl) (by kernel_rfl) (by kernel_rfl)
      (by rw [MakeChecks.laidMetH_plain _ _ _ (by kernel_rfl)]; exact laidMet_laidAll _ (by kernel_rfl) (by kernel_rfl))) ?_
  intro W base args ds gs before hsh hval0 hW _ _ hL _
  have hval : ∀ (j : Nat) t v, Tryz.f3.params[j]? = some t → args[j]? = some v → Value.okWide Tryz.prog W .any base t v := hval0
  have hW' := hW
  obtain ⟨p, q, hA0, hV, rfl, hfz, hnd⟩ := hW
  have hA : DataW.TrodAll enc Tryz.prog W 0 (fun _ => true) true Tryz.f3.params.toList args.toList ds p := hA0
  rw [Tryz.params3] at hA hval
  obtain ⟨v0, vs0, d0, ds0, p0, q0, hargs, rfl, rfl, h0, r0⟩ := trodAll_cons hA
  obtain ⟨v1, vs1, d1, ds1, p1, q1, rfl, rfl, rfl, h1, r1⟩ := trodAll_cons r0
  obtain ⟨v2, vs2, d2, ds2, p2, q2, rfl, rfl, rfl, h2, r2⟩ := trodAll_cons r1
  obtain ⟨rfl, rfl, rfl⟩ := trodAll_nil r2
  obtain rfl : args = #[v0, v1, v2] := by cases args; simp_all
  obtain ⟨rfl, rfl⟩ := trodVars_none hV
  obtain ⟨a0, rfl, rfl, rfl, w0⟩ := open_int Tryz.underlying3 (hval 0 3 v0 rfl rfl) h0
  obtain ⟨a1, rfl, rfl, rfl, w1⟩ := open_int Tryz.underlying3 (hval 1 3 v1 rfl rfl) h1
  obtain ⟨a2, rfl, rfl, rfl⟩ := open_bool Tryz.underlying4 (hval 2 4 v2 rfl rfl) h2
  clear hA0 hval0
  have hL' : laidMet Tryz.prog laid W := by
    rw [MakeChecks.laidMetH_plain _ _ _ (by kernel_rfl)] at hL
    exact hL
  have hgl : ∀ G, Vai.GOk G W top.gl := fun G => top.gl_ok G hsh (Lib.tabIs_of_head top.pow_g top.pow_ty Tryz.underlying459 Tryz.underlying332 top.pow_ce top.pow_ct (laidMet.tail (laidMet.tail hL')))
  refine (walk a0 a1 a2 w0 w1 W hgl).mono fun e W' ⟨he, bel⟩ => ?_
  subst he
  exact ⟨_, rfl, _, _, _, [], _, [], hW', trodAll_mk1 (shut_bool Tryz.underlying4 _), (trodAll_cons_mk (shut_int Tryz.underlying3 w0) (trodAll_cons_mk (shut_int Tryz.underlying3 w1) (trodAll_cons_mk (shut_bool Tryz.underlying4 _) trodAll_mk0))), rfl, bel.frame _, fun h => by cases h⟩
end Go.Proofs.YtemmgompegkgkaaGreatDoor.toplasts
