/- The law TopStats: the kernel runs the evaluator over its code, for each of the inputs that its guards let in, and the evaluator's word is the model's; and the law's tied card. -/
import Derived.Test.YtendipoeeoieiaaGreatDoorRows
import Derived.Test.YtendipoeeoieiaaGreatDoorCards
import Derived.Test.YtendipoeeoieiaaGreatDoorTie
import Derived.Test.YtendipoeeoieiaaGreatDoorVE
import Derived.Test.YtendipoeeoieiaaGreatDoorTopStatsI0
import Derived.Test.YtendipoeeoieiaaGreatDoorTopStatsI1
import Derived.Test.YtendipoeeoieiaaGreatDoorTopStatsI2
import Derived.Test.YtendipoeeoieiaaGreatDoorTopStatsI3
import Derived.Test.YtendipoeeoieiaaGreatDoorTopStatsI4
import Derived.WalkKit
import Derived.ProofKit
import Derived.OpenShut
import Derived.ShutString
import Derived.ChangeOld
import Derived.Below
import Derived.SizedLaws
import Derived.Lay
import Derived.LaidOnce
import Derived.SevenTiedAt
namespace Go.Proofs.YtendipoeeoieiaaGreatDoor.topstats
open Go.ChangeShapes Go.WideShapes Go.ChangeAt Go.RowKit
open Go.ChangeMaps (open_string shut_string)
set_option linter.unusedVariables false
set_option linter.unusedSimpArgs false
theorem own : ownKnob Tryz.prog.godebug = none := by kernel_rfl
theorem walk (a0 : Int) (w0 : (Lit.int .i64 a0).wf = true) (W : World) : Calls Tryz.prog 5 #[.int .i64 a0] W fun e w' => e = .returned (.bool true) ∧ Below W.heap.size W w' := by
  have hb : -9223372036854775808 ≤ a0 ∧ a0 ≤ 9223372036854775807 := by
    have h := w0
    simp only [Lit.wf, Bool.and_eq_true, decide_eq_true_eq] at h
    exact h
  have key : ∀ (args : Array Value) (v : Nat), (a0.tmod 20).natAbs = v → Vai.wfA 8192 args → args.toList.all Vai.nameB = true → Vai.saidOf (lawCall v 5 args Vai.mem0) = some true → Calls Tryz.prog 5 ⟨args.toList.map (Vai.gv fun _ => .int .i64 a0)⟩ W fun e w' => e = .returned (.bool true) ∧ Below W.heap.size W w' := by
    intro args v hv h1 h2 h3
    have := Vai.law_of_eval (law_ok a0 hb v hv) h1 h3 W
    rw [Vai.concA_names (G := fun _ => .int .i64 a0) (fun _ => trivial) h2] at this
    exact this
  have hlt : (a0.tmod 20).natAbs < 20 := by
    rw [Int.natAbs_tmod]
    exact Nat.mod_lt _ (by decide)
  generalize hv : (a0.tmod 20).natAbs = v at hlt
  all_goals
    have hc : v = 0 ∨ v = 1 ∨ v = 2 ∨ v = 3 ∨ v = 4 ∨ v = 5 ∨ v = 6 ∨ v = 7 ∨ v = 8 ∨ v = 9 ∨ v = 10 ∨ v = 11 ∨ v = 12 ∨ v = 13 ∨ v = 14 ∨ v = 15 ∨ v = 16 ∨ v = 17 ∨ v = 18 ∨ v = 19 := by omega
    rcases hc with h | h | h | h | h | h | h | h | h | h | h | h | h | h | h | h | h | h | h | h
  · exact key #[.chan (some 4096)] 0 (by rw [hv, h]) (by simp [Vai.wfA, Vai.wfL, Vai.wf]) rfl said_0
  · exact key #[.chan (some 4096)] 1 (by rw [hv, h]) (by simp [Vai.wfA, Vai.wfL, Vai.wf]) rfl said_1
  · exact key #[.chan (some 4096)] 2 (by rw [hv, h]) (by simp [Vai.wfA, Vai.wfL, Vai.wf]) rfl said_2
  · exact key #[.chan (some 4096)] 3 (by rw [hv, h]) (by simp [Vai.wfA, Vai.wfL, Vai.wf]) rfl said_3
  · exact key #[.chan (some 4096)] 4 (by rw [hv, h]) (by simp [Vai.wfA, Vai.wfL, Vai.wf]) rfl said_4
  · exact key #[.chan (some 4096)] 5 (by rw [hv, h]) (by simp [Vai.wfA, Vai.wfL, Vai.wf]) rfl said_5
  · exact key #[.chan (some 4096)] 6 (by rw [hv, h]) (by simp [Vai.wfA, Vai.wfL, Vai.wf]) rfl said_6
  · exact key #[.chan (some 4096)] 7 (by rw [hv, h]) (by simp [Vai.wfA, Vai.wfL, Vai.wf]) rfl said_7
  · exact key #[.chan (some 4096)] 8 (by rw [hv, h]) (by simp [Vai.wfA, Vai.wfL, Vai.wf]) rfl said_8
  · exact key #[.chan (some 4096)] 9 (by rw [hv, h]) (by simp [Vai.wfA, Vai.wfL, Vai.wf]) rfl said_9
  · exact key #[.chan (some 4096)] 10 (by rw [hv, h]) (by simp [Vai.wfA, Vai.wfL, Vai.wf]) rfl said_10
  · exact key #[.chan (some 4096)] 11 (by rw [hv, h]) (by simp [Vai.wfA, Vai.wfL, Vai.wf]) rfl said_11
  · exact key #[.chan (some 4096)] 12 (by rw [hv, h]) (by simp [Vai.wfA, Vai.wfL, Vai.wf]) rfl said_12
  · exact key #[.chan (some 4096)] 13 (by rw [hv, h]) (by simp [Vai.wfA, Vai.wfL, Vai.wf]) rfl said_13
  · exact key #[.chan (some 4096)] 14 (by rw [hv, h]) (by simp [Vai.wfA, Vai.wfL, Vai.wf]) rfl said_14
  · exact key #[.chan (some 4096)] 15 (by rw [hv, h]) (by simp [Vai.wfA, Vai.wfL, Vai.wf]) rfl said_15
  · exact key #[.chan (some 4096)] 16 (by rw [hv, h]) (by simp [Vai.wfA, Vai.wfL, Vai.wf]) rfl said_16
  · exact key #[.chan (some 4096)] 17 (by rw [hv, h]) (by simp [Vai.wfA, Vai.wfL, Vai.wf]) rfl said_17
  · exact key #[.chan (some 4096)] 18 (by rw [hv, h]) (by simp [Vai.wfA, Vai.wfL, Vai.wf]) rfl said_18
  · exact key #[.chan (some 4096)] 19 (by rw [hv, h]) (by simp [Vai.wfA, Vai.wfL, Vai.wf]) rfl said_19
/-- What the row lists. -/
noncomputable def laid : List (String × DataW Unit) := Rows.topStatsRow.laid
set_option maxRecDepth 100000 in
theorem lifted (os : Os) (started : os.Started) (H : Type) (enc : TypeId × Value → H) :
    ReturnsInHanded {} Tryz.checked os 5 .any (fun w args => (Rows.topStatsSpec.pre enc Tryz.prog Tryz.f5 [] false w args ∧ laidMetH Tryz.prog laid w) ∧ sizedMet enc Tryz.prog Tryz.f5 (OpenSpec.ofChange Rows.topStatsSpec) false w args)
      (Rows.topStatsSpec.post enc Tryz.prog Tryz.f5 false true false false) := by
  refine returnsInHanded_of_change_and (C := Tryz.checked) (X := fun w _ => laidMetH Tryz.prog laid w) (fun _ _ _ hh h => h.of_heap hh) own started (by kernel_rfl) Tryz.func5
    (ChangeSpec.witness_shaped (enc := enc) (C := Tryz.checked) (os := os) (X := fun w _ => laidMetH Tryz.prog laid w) false (World.laidAll Tryz.prog os laid) #[.int .i64 0] 8 (World.laidAll_os _ _ _)
      (World.shaped_of_ZipB (by kernel_rfl) (by kernel_rfl)) (by kernel_rfl) (by kernel_rfl) (by kernel_rfl)
      (by rw [MakeChecks.laidMetH_plain _ _ _ (by kernel_rfl)]; exact laidMet_laidAll _ (by kernel_rfl) (by kernel_rfl))) ?_
  intro W base args ds gs before hval0 hW _ _ hL _
  have hval : ∀ (j : Nat) t v, Tryz.f5.params[j]? = some t → args[j]? = some v → Value.okWide Tryz.prog W .any base t v := hval0
  have hW' := hW
  obtain ⟨p, q, hA0, hV, rfl, hfz, hnd⟩ := hW
  have hA : DataW.TrodAll enc Tryz.prog W 0 (fun _ => true) true Tryz.f5.params.toList args.toList ds p := hA0
  rw [Tryz.params5] at hA hval
  obtain ⟨v0, vs0, d0, ds0, p0, q0, hargs, rfl, rfl, h0, r0⟩ := trodAll_cons hA
  obtain ⟨rfl, rfl, rfl⟩ := trodAll_nil r0
  obtain rfl : args = #[v0] := by cases args; simp_all
  obtain ⟨rfl, rfl⟩ := trodVars_none hV
  obtain ⟨a0, rfl, rfl, rfl, w0⟩ := open_int Tryz.underlying3 (hval 0 3 v0 rfl rfl) h0
  clear hA0 hval0
  refine (walk a0 w0 W).mono fun e W' ⟨he, bel⟩ => ?_
  subst he
  exact ⟨_, rfl, _, _, _, [], _, [], hW', trodAll_mk1 (shut_bool Tryz.underlying4 _), (trodAll_cons_mk (shut_int Tryz.underlying3 w0) trodAll_mk0), rfl, bel.frame _, fun h => by cases h⟩
end Go.Proofs.YtendipoeeoieiaaGreatDoor.topstats
