/- The law TopSpoof: the kernel runs the evaluator over its code, for each of the inputs that its guards let in, and the evaluator's word is the model's; and the law's tied card. -/
import Derived.Test.YtemmgompegkgkaaGreatDoorRows
import Derived.Test.YtemmgompegkgkaaGreatDoorCards
import Derived.Test.YtemmgompegkgkaaGreatDoorTie
import Derived.Test.YtemmgompegkgkaaGreatDoorVG
import Derived.Test.YtemmgompegkgkaaGreatDoorTopSpoofI0
import Derived.Test.YtemmgompegkgkaaGreatDoorTopSpoofI1
import Derived.Test.YtemmgompegkgkaaGreatDoorTopSpoofI2
import Derived.WalkKit
import Derived.ProofKit
import Derived.OpenShut
import Derived.ShutString
import Derived.ChangeOld
import Derived.Below
import Derived.SizedLaws
import Derived.Lay
import Derived.LaidOnce
import Derived.SevenTiedAt
namespace Go.Proofs.YtemmgompegkgkaaGreatDoor.topspoof
open Go.ChangeShapes Go.WideShapes Go.ChangeAt Go.RowKit
open Go.ChangeMaps (open_string shut_string)
set_option linter.unusedVariables false
set_option linter.unusedSimpArgs false
theorem own : ownKnob Tryz.prog.godebug = none := by kernel_rfl
theorem walk (a0 : Int) (a1 : Int) (w0 : (Lit.int .i64 a0).wf = true) (w1 : (Lit.int .i64 a1).wf = true) (W : World) (hgl : ∀ G, Vai.GOk G W top.gl) : Calls Tryz.prog 4 #[.int .i64 a0, .int .i64 a1] W fun e w' => e = .returned (.bool true) ∧ Below W.heap.size W w' := by
  have b0 : -9223372036854775808 ≤ a0 ∧ a0 ≤ 9223372036854775807 := by
    have h := w0
    simp only [Lit.wf, Bool.and_eq_true, decide_eq_true_eq] at h
    exact h
  have l0_3 : (a0.tmod 3).natAbs < 3 := by
    rw [Int.natAbs_tmod]
    exact Nat.mod_lt _ (by decide)
  generalize e0_3 : (a0.tmod 3).natAbs = v0_3 at l0_3
  have b1 : -9223372036854775808 ≤ a1 ∧ a1 ≤ 9223372036854775807 := by
    have h := w1
    simp only [Lit.wf, Bool.and_eq_true, decide_eq_true_eq] at h
    exact h
  have l1_50 : (a1.tmod 50).natAbs < 50 := by
    rw [Int.natAbs_tmod]
    exact Nat.mod_lt _ (by decide)
  generalize e1_50 : (a1.tmod 50).natAbs = v1_50 at l1_50
  have l1_60000 : (a1.tmod 60000).natAbs < 60000 := by
    rw [Int.natAbs_tmod]
    exact Nat.mod_lt _ (by decide)
  generalize e1_60000 : (a1.tmod 60000).natAbs = v1_60000 at l1_60000
  have hcl : (v0_3 = 0 ∧ 0 ≤ v1_50 ∧ v1_50 < 50) ∨ (v0_3 = 1 ∧ 0 ≤ v1_60000 ∧ v1_60000 < 60000) ∨ (v0_3 = 2) := by omega
  rcases hcl with h | h | h
  · exact _root_.Go.Proofs.YtemmgompegkgkaaGreatDoor.topspoof.k0.word a0 a1 (v1_50) (by omega)  b0 b1  (e0_3.trans (by omega)) (e1_50.trans (by omega)) W hgl
  · exact _root_.Go.Proofs.YtemmgompegkgkaaGreatDoor.topspoof.k1.word a0 a1 (v1_60000) (by omega)  b0 b1  (e0_3.trans (by omega)) (e1_60000.trans (by omega)) W hgl
  · exact _root_.Go.Proofs.YtemmgompegkgkaaGreatDoor.topspoof.k2.word a0 a1    b0 b1  (e0_3.trans (by omega)) W hgl
/-- What the row lists. -/
noncomputable def laid : List (String × DataW Unit) := Rows.topSpoofRow.laid
set_option maxRecDepth 100000 in
theorem lifted (os : Os) (started : os.Started) (H : Type) (enc : TypeId × Value → H) :
    ReturnsInHanded {} Tryz.checked os 4 .any (fun w args => (Rows.topSpoofSpec.pre enc Tryz.prog Tryz.f4 [] false w args ∧ laidMetH Tryz.prog laid w) ∧ sizedMet enc Tryz.prog Tryz.f4 (OpenSpec.ofChange Rows.topSpoofSpec) false w args)
      (Rows.topSpoofSpec.post enc Tryz.prog Tryz.f4 false true false false) := by
  refine Vai.returns_shaped (C := Tryz.checked) (X := fun w _ => laidMetH Tryz.prog laid w) (fun _ _ _ hh h => h.of_heap hh) own started (by kernel_rfl) Tryz.func4
    (ChangeSpec.witness_shaped (enc := enc) (C := Tryz.checked) (os := os) (X := fun w _ => laidMetH Tryz.prog laid w) false (World.laidAll Tryz.prog os laid) #[.int .i64 0, .int .i64 0] 8 (World.laidAll_os _ _ _)
      (World.shaped_of_ZipB (by kernel_rfl) (by kernel_rfl)) (by kernel_rfl) (by kernel_rfl) (by kernel_rfl)
      (by rw [MakeChecks.laidMetH_plain _ _ _ (by kernel_rfl)]; exact laidMet_laidAll _ (by kernel_rfl) (by kernel_rfl))) ?_
  intro W base args ds gs before hsh hval0 hW _ _ hL _
  have hval : ∀ (j : Nat) t v, Tryz.f4.params[j]? = some t → args[j]? = some v → Value.okWide Tryz.prog W .any base t v := hval0
  have hW' := hW
  obtain ⟨p, q, hA0, hV, rfl, hfz, hnd⟩ := hW
  have hA : DataW.TrodAll enc Tryz.prog W 0 (fun _ => true) true Tryz.f4.params.toList args.toList ds p := hA0
  rw [Tryz.params4] at hA hval
  obtain ⟨v0, vs0, d0, ds0, p0, q0, hargs, rfl, rfl, h0, r0⟩ := trodAll_cons hA
  obtain ⟨v1, vs1, d1, ds1, p1, q1, rfl, rfl, rfl, h1, r1⟩ := trodAll_cons r0
  obtain ⟨rfl, rfl, rfl⟩ := trodAll_nil r1
  obtain rfl : args = #[v0, v1] := by cases args; simp_all
  obtain ⟨rfl, rfl⟩ := trodVars_none hV
  obtain ⟨a0, rfl, rfl, rfl, w0⟩ := open_int Tryz.underlying3 (hval 0 3 v0 rfl rfl) h0
  obtain ⟨a1, rfl, rfl, rfl, w1⟩ := open_int Tryz.underlying3 (hval 1 3 v1 rfl rfl) h1
  clear hA0 hval0
  have hL' : laidMet Tryz.prog laid W := by
    rw [MakeChecks.laidMetH_plain _ _ _ (by kernel_rfl)] at hL
    exact hL
  have hgl : ∀ G, Vai.GOk G W top.gl := fun G => top.gl_ok G hsh (Lib.tabIs_of_head top.pow_g top.pow_ty Tryz.underlying459 Tryz.underlying332 top.pow_ce top.pow_ct (laidMet.tail (laidMet.tail hL')))
  refine (walk a0 a1 w0 w1 W hgl).mono fun e W' ⟨he, bel⟩ => ?_
  subst he
  exact ⟨_, rfl, _, _, _, [], _, [], hW', trodAll_mk1 (shut_bool Tryz.underlying4 _), (trodAll_cons_mk (shut_int Tryz.underlying3 w0) (trodAll_cons_mk (shut_int Tryz.underlying3 w1) trodAll_mk0)), rfl, bel.frame _, fun h => by cases h⟩
end Go.Proofs.YtemmgompegkgkaaGreatDoor.topspoof
