/- The law WirePointers: the kernel runs the evaluator over its code, for each of the inputs that its guards let in, and the evaluator's word is the model's; and the law's tied card. -/
import Derived.Test.YtbdffkecbgbapaaDoorRows
import Derived.Test.YtbdffkecbgbapaaDoorCards
import Derived.Test.YtbdffkecbgbapaaDoorTie
import Derived.Test.YtbdffkecbgbapaaDoorVD
import Derived.Test.YtbdffkecbgbapaaDoorWirePointersB
import Derived.Test.YtbdffkecbgbapaaDoorWirePointersI0
import Derived.Test.YtbdffkecbgbapaaDoorWirePointersI1
import Derived.Test.YtbdffkecbgbapaaDoorWirePointersI2
import Derived.Test.YtbdffkecbgbapaaDoorWirePointersI3
import Derived.Test.YtbdffkecbgbapaaDoorWirePointersI4
import Derived.Test.YtbdffkecbgbapaaDoorWirePointersI5
import Derived.Test.YtbdffkecbgbapaaDoorWirePointersI6
import Derived.WalkKit
import Derived.ProofKit
import Derived.OpenShut
import Derived.ShutString
import Derived.ChangeOld
import Derived.Below
import Derived.SizedLaws
import Derived.Lay
import Derived.LaidOnce
import Derived.SevenTiedAt
namespace Go.Proofs.YtbdffkecbgbapaaDoor.wirepointers
open Go.ChangeShapes Go.WideShapes Go.ChangeAt Go.RowKit
open Go.ChangeMaps (open_string shut_string)
set_option linter.unusedVariables false
set_option linter.unusedSimpArgs false
theorem own : ownKnob Tryd.prog.godebug = none := by kernel_rfl
theorem saidAll (a0 : Int) (a1 : Int) : said #[.int .i64 a0, .int .i64 a1] = true := by
  rcases a1 with i1 | k
  case negSucc => exact low1 k a0
  by_cases t1 : i1 ≤ 6
  case neg => obtain ⟨k, rfl⟩ : ∃ k, i1 = k + 7 := ⟨i1 - 7, by omega⟩; exact high1 k a0
  have h1 : i1 < 7 := by omega
  rcases a0 with i0 | k
  case negSucc => exact Vai.allB_spec (low0 k) i1 h1
  by_cases t0 : i0 ≤ 60
  case neg => obtain ⟨k, rfl⟩ : ∃ k, i0 = k + 61 := ⟨i0 - 61, by omega⟩; exact Vai.allB_spec (high0 k) i1 h1
  have h0 : i0 < 61 := by omega
  rcases (show i1 = 0 ∨ i1 = 1 ∨ i1 = 2 ∨ i1 = 3 ∨ i1 = 4 ∨ i1 = 5 ∨ i1 = 6 by omega) with rfl | rfl | rfl | rfl | rfl | rfl | rfl
  · exact in_0 i0 h0
  · exact in_1 i0 h0
  · exact in_2 i0 h0
  · exact in_3 i0 h0
  · exact in_4 i0 h0
  · exact in_5 i0 h0
  · exact in_6 i0 h0
theorem walk (a0 : Int) (a1 : Int) (w0 : (Lit.int .i64 a0).wf = true) (w1 : (Lit.int .i64 a1).wf = true) (W : World) : Calls Tryd.prog 3 #[.int .i64 a0, .int .i64 a1] W fun e w' => e = .returned (.bool true) ∧ Below W.heap.size W w' :=
  Vai.law_of_eval (law_ok fun _ => 0) (args := #[.int .i64 a0, .int .i64 a1]) ⟨trivial, trivial, trivial⟩ (Vai.isT_true (saidAll a0 a1)) W
/-- What the row lists. -/
noncomputable def laid : List (String × DataW Unit) := Rows.wirePointersRow.laid
set_option maxRecDepth 100000 in
theorem lifted (os : Os) (started : os.Started) (H : Type) (enc : TypeId × Value → H) :
    ReturnsInHanded {} Tryd.checked os 3 .any (fun w args => (Rows.wirePointersSpec.pre enc Tryd.prog Tryd.f3 [] false w args ∧ laidMetH Tryd.prog laid w) ∧ sizedMet enc Tryd.prog Tryd.f3 (OpenSpec.ofChange Rows.wirePointersSpec) false w args)
      (Rows.wirePointersSpec.post enc Tryd.prog Tryd.f3 false true false false) := by
  refine returnsInHanded_of_change_and (C := Tryd.checked) (X := fun w _ => laidMetH Tryd.prog laid w) (fun _ _ _ hh h => h.of_heap hh) own started (by kernel_rfl) Tryd.func3
    (ChangeSpec.witness_shaped (enc := enc) (C := Tryd.checked) (os := os) (X := fun w _ => laidMetH Tryd.prog laid w) false (World.laidAll Tryd.prog os laid) #[.int .i64 0, .int .i64 0] 8 (World.laidAll_os _ _ _)
      (World.shaped_of_ZipB (by kernel_rfl) (by kernel_rfl)) (by kernel_rfl) (by kernel_rfl) (by kernel_rfl)
      (by rw [MakeChecks.laidMetH_plain _ _ _ (by kernel_rfl)]; exact laidMet_laidAll _ (by kernel_rfl) (by kernel_rfl))) ?_
  intro W base args ds gs before hval0 hW _ _ hL _
  have hval : ∀ (j : Nat) t v, Tryd.f3.params[j]? = some t → args[j]? = some v → Value.okWide Tryd.prog W .any base t v := hval0
  have hW' := hW
  obtain ⟨p, q, hA0, hV, rfl, hfz, hnd⟩ := hW
  have hA : DataW.TrodAll enc Tryd.prog W 0 (fun _ => true) true Tryd.f3.params.toList args.toList ds p := hA0
  rw [Tryd.params3] at hA hval
  obtain ⟨v0, vs0, d0, ds0, p0, q0, hargs, rfl, rfl, h0, r0⟩ := trodAll_cons hA
  obtain ⟨v1, vs1, d1, ds1, p1, q1, rfl, rfl, rfl, h1, r1⟩ := trodAll_cons r0
  obtain ⟨rfl, rfl, rfl⟩ := trodAll_nil r1
  obtain rfl : args = #[v0, v1] := by cases args; simp_all
  obtain ⟨rfl, rfl⟩ := trodVars_none hV
  obtain ⟨a0, rfl, rfl, rfl, w0⟩ := open_int Tryd.underlying3 (hval 0 3 v0 rfl rfl) h0
  obtain ⟨a1, rfl, rfl, rfl, w1⟩ := open_int Tryd.underlying3 (hval 1 3 v1 rfl rfl) h1
  clear hA0 hval0
  refine (walk a0 a1 w0 w1 W).mono fun e W' ⟨he, bel⟩ => ?_
  subst he
  exact ⟨_, rfl, _, _, _, [], _, [], hW', trodAll_mk1 (shut_bool Tryd.underlying4 _), (trodAll_cons_mk (shut_int Tryd.underlying3 w0) (trodAll_cons_mk (shut_int Tryd.underlying3 w1) trodAll_mk0)), rfl, bel.frame _, fun h => by cases h⟩
theorem over : Rows.wirePointersRow.holds Tryd.pinned (OpenSpec.ofChange Rows.wirePointersSpec) :=
  OpenClaim.holds_of_wide 3 Tryd.f3 rfl rfl rfl rfl rfl rfl rfl ⟨rfl, rfl, rfl, rfl, rfl⟩ rfl rfl rfl rfl rfl (by kernel_rfl) Tryd.func3 (by kernel_rfl)
    (of_decide_eq_true (by kernel_rfl)) (by unfold Func.isWrapper; first | (rw [if_pos (by decide +kernel)]; kernel_rfl) | (rw [if_neg (by decide +kernel)]; exact ⟨rfl, rfl⟩))
    (fun os started H enc _ => lifted os started H enc)
theorem proved : Rows.WirePointersCardSaid :=
  Claim7.holds_tied_plain_at .later [] [.data, .pinned] true (true, "c181f26dd92dae8db9d492f4ef5f648df9cd62fafc45fb44d03196f6b2c35f15") true over (fun _ h => by cases h) (by kernel_rfl) (fun _ h => by cases h) wirePointers_row_tie rfl ⟨rfl, rfl⟩ (by kernel_rfl) rfl
    (fun f fn hf hfn => by
      obtain rfl : f = 3 := Option.some.inj ((show Tryd.prog.funcNamed "concierge/conciergelaw5.WirePointers" = some 3 by kernel_rfl).symm.trans hf) |>.symm
      obtain rfl : fn = Tryd.f3 := (Option.some.inj (Tryd.func3.symm.trans hfn)).symm
      exact ⟨by kernel_rfl, fun j t ht => by
        rw [Tryd.params3] at ht
        have hm : t ∈ [3, 3] := by simpa using Array.mem_of_getElem? ht
        have hall : ([3, 3].all fun u => !Tryd.prog.wantsStandIn u) = true := by kernel_rfl
        exact (show Tryd.prog.wantsStandIn t = false by simpa using List.all_eq_true.1 hall t hm)⟩)
    (by kernel_rfl)
end Go.Proofs.YtbdffkecbgbapaaDoor.wirepointers
namespace Go.Proofs.YtbdffkecbgbapaaDoor
/-- The card, under a short name, for the claim. -/
theorem wirepointers_holds : Rows.WirePointersCardSaid := wirepointers.proved
end Go.Proofs.YtbdffkecbgbapaaDoor
