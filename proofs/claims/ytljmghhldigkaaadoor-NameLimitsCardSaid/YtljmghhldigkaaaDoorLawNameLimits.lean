/- The law NameLimits: the kernel runs the evaluator over its code, for each of the inputs that its guards let in, and the evaluator's word is the model's; and the law's tied card. -/
import Derived.Test.YtljmghhldigkaaaDoorRows
import Derived.Test.YtljmghhldigkaaaDoorCards
import Derived.Test.YtljmghhldigkaaaDoorTie
import Derived.Test.YtljmghhldigkaaaDoorVD
import Derived.WalkKit
import Derived.ProofKit
import Derived.OpenShut
import Derived.ShutString
import Derived.ChangeOld
import Derived.Below
import Derived.SizedLaws
import Derived.Lay
import Derived.LaidOnce
import Derived.SevenTiedAt
namespace Go.Proofs.YtljmghhldigkaaaDoor.namelimits
open Go.ChangeShapes Go.WideShapes Go.ChangeAt Go.RowKit
open Go.ChangeMaps (open_string shut_string)
set_option linter.unusedVariables false
set_option linter.unusedSimpArgs false
theorem own : ownKnob Tryd.prog.godebug = none := by kernel_rfl
/-- What is told of functions without a body. -/
noncomputable abbrev ext : Vai.Extn := Vai.extFull Tryd.prog
noncomputable def plainCall : Vai.CallF := Vai.evalFn Tryd.prog ext Vai.noSumm (Vai.drawD Tryd.prog ext) 600
theorem plain_ok (G : Vai.Sym) : Vai.CallOk Tryd.prog G plainCall := Vai.evalFn_ok Vai.extFull_ok trivial Vai.noSumm_ok (Vai.drawD_ok Vai.extFull_ok trivial) 600
set_option maxRecDepth 100000 in
theorem begun_true : Vai.saidOf (plainCall 7 #[] Vai.mem0) = some true := by kernel_rfl
noncomputable def lawCall : Vai.CallF := Vai.evalFn Tryd.prog ext (Vai.trueS 7) (Vai.drawD Tryd.prog ext) 600
theorem law_ok (G : Vai.Sym) : Vai.CallOk Tryd.prog G lawCall := Vai.evalFn_ok Vai.extFull_ok trivial (Vai.trueS_ok (plain_ok G) begun_true) (Vai.drawD_ok Vai.extFull_ok trivial) 600
noncomputable def said (args : Array Value) : Bool := Vai.isT (Vai.saidOf (lawCall 5 args Vai.mem0))
set_option maxRecDepth 100000 in
theorem low0 (k : Nat) (a1 : Int) (a2 : Bool) : (said #[.int .i64 (.negSucc k), .int .i64 a1, .bool a2]) = true := by kernel_rfl
set_option maxRecDepth 100000 in
theorem high0 (k : Nat) (a1 : Int) (a2 : Bool) : (said #[.int .i64 (.ofNat (k + 67)), .int .i64 a1, .bool a2]) = true := by kernel_rfl
set_option maxRecDepth 100000 in
theorem under0 (a1 : Int) (a2 : Bool) : (Vai.allB 60 fun j => said #[.int .i64 (.ofNat j), .int .i64 a1, .bool a2]) = true := by kernel_rfl
set_option maxRecDepth 100000 in
theorem low1 (k : Nat) (a2 : Bool) : (Vai.allB 7 fun i0 => said #[.int .i64 (.ofNat (i0 + 60)), .int .i64 (.negSucc k), .bool a2]) = true := by kernel_rfl
set_option maxRecDepth 100000 in
theorem high1 (k : Nat) (a2 : Bool) : (Vai.allB 7 fun i0 => said #[.int .i64 (.ofNat (i0 + 60)), .int .i64 (.ofNat (k + 6)), .bool a2]) = true := by kernel_rfl
set_option maxRecDepth 100000 in
theorem int_0  : (Vai.allB 6 fun i1 => said #[.int .i64 (.ofNat 60), .int .i64 (.ofNat (i1 + 0)), .bool true]) = true := by kernel_rfl
set_option maxRecDepth 100000 in
theorem int_1  : (Vai.allB 6 fun i1 => said #[.int .i64 (.ofNat 61), .int .i64 (.ofNat (i1 + 0)), .bool true]) = true := by kernel_rfl
set_option maxRecDepth 100000 in
theorem int_2  : (Vai.allB 6 fun i1 => said #[.int .i64 (.ofNat 62), .int .i64 (.ofNat (i1 + 0)), .bool true]) = true := by kernel_rfl
set_option maxRecDepth 100000 in
theorem int_3  : (Vai.allB 6 fun i1 => said #[.int .i64 (.ofNat 63), .int .i64 (.ofNat (i1 + 0)), .bool true]) = true := by kernel_rfl
set_option maxRecDepth 100000 in
theorem int_4  : (Vai.allB 6 fun i1 => said #[.int .i64 (.ofNat 64), .int .i64 (.ofNat (i1 + 0)), .bool true]) = true := by kernel_rfl
set_option maxRecDepth 100000 in
theorem int_5  : (Vai.allB 6 fun i1 => said #[.int .i64 (.ofNat 65), .int .i64 (.ofNat (i1 + 0)), .bool true]) = true := by kernel_rfl
set_option maxRecDepth 100000 in
theorem int_6  : (Vai.allB 6 fun i1 => said #[.int .i64 (.ofNat 66), .int .i64 (.ofNat (i1 + 0)), .bool true]) = true := by kernel_rfl
set_option maxRecDepth 100000 in
theorem inf_0  : (Vai.allB 6 fun i1 => said #[.int .i64 (.ofNat 60), .int .i64 (.ofNat (i1 + 0)), .bool false]) = true := by kernel_rfl
set_option maxRecDepth 100000 in
theorem inf_1  : (Vai.allB 6 fun i1 => said #[.int .i64 (.ofNat 61), .int .i64 (.ofNat (i1 + 0)), .bool false]) = true := by kernel_rfl
set_option maxRecDepth 100000 in
theorem inf_2  : (Vai.allB 6 fun i1 => said #[.int .i64 (.ofNat 62), .int .i64 (.ofNat (i1 + 0)), .bool false]) = true := by kernel_rfl
set_option maxRecDepth 100000 in
theorem inf_3  : (Vai.allB 6 fun i1 => said #[.int .i64 (.ofNat 63), .int .i64 (.ofNat (i1 + 0)), .bool false]) = true := by kernel_rfl
set_option maxRecDepth 100000 in
theorem inf_4  : (Vai.allB 6 fun i1 => said #[.int .i64 (.ofNat 64), .int .i64 (.ofNat (i1 + 0)), .bool false]) = true := by kernel_rfl
set_option maxRecDepth 100000 in
theorem inf_5  : (Vai.allB 6 fun i1 => said #[.int .i64 (.ofNat 65), .int .i64 (.ofNat (i1 + 0)), .bool false]) = true := by kernel_rfl
set_option maxRecDepth 100000 in
theorem inf_6  : (Vai.allB 6 fun i1 => said #[.int .i64 (.ofNat 66), .int .i64 (.ofNat (i1 + 0)), .bool false]) = true := by kernel_rfl
theorem saidAll (a0 : Int) (a1 : Int) (a2 : Bool) : said #[.int .i64 a0, .int .i64 a1, .bool a2] = true := by
  rcases a0 with m0 | k
  case negSucc => exact (low0 k a1 a2)
  by_cases u0 : m0 < 60
  · exact Vai.allB_spec (under0  a1 a2) m0 u0
  by_cases t0 : m0 ≤ 66
  case neg => obtain ⟨k, rfl⟩ : ∃ k, m0 = k + 67 := ⟨m0 - 67, by omega⟩; exact (high0 k a1 a2)
  obtain ⟨i0, rfl⟩ : ∃ k, m0 = k + 60 := ⟨m0 - 60, by omega⟩
  have h0 : i0 < 7 := by omega
  rcases a1 with i1 | k
  case negSucc => exact (Vai.allB_spec (low1 k a2) i0 h0)
  by_cases t1 : i1 ≤ 5
  case neg => obtain ⟨k, rfl⟩ : ∃ k, i1 = k + 6 := ⟨i1 - 6, by omega⟩; exact (Vai.allB_spec (high1 k a2) i0 h0)
  have h1 : i1 < 6 := by omega
  cases a2
  case true =>
    rcases (show i0 = 0 ∨ i0 = 1 ∨ i0 = 2 ∨ i0 = 3 ∨ i0 = 4 ∨ i0 = 5 ∨ i0 = 6 by omega) with rfl | rfl | rfl | rfl | rfl | rfl | rfl
    · exact (Vai.allB_spec int_0 i1 h1)
    · exact (Vai.allB_spec int_1 i1 h1)
    · exact (Vai.allB_spec int_2 i1 h1)
    · exact (Vai.allB_spec int_3 i1 h1)
    · exact (Vai.allB_spec int_4 i1 h1)
    · exact (Vai.allB_spec int_5 i1 h1)
    · exact (Vai.allB_spec int_6 i1 h1)
  case false =>
    rcases (show i0 = 0 ∨ i0 = 1 ∨ i0 = 2 ∨ i0 = 3 ∨ i0 = 4 ∨ i0 = 5 ∨ i0 = 6 by omega) with rfl | rfl | rfl | rfl | rfl | rfl | rfl
    · exact (Vai.allB_spec inf_0 i1 h1)
    · exact (Vai.allB_spec inf_1 i1 h1)
    · exact (Vai.allB_spec inf_2 i1 h1)
    · exact (Vai.allB_spec inf_3 i1 h1)
    · exact (Vai.allB_spec inf_4 i1 h1)
    · exact (Vai.allB_spec inf_5 i1 h1)
    · exact (Vai.allB_spec inf_6 i1 h1)
theorem walk (a0 : Int) (a1 : Int) (a2 : Bool) (w0 : (Lit.int .i64 a0).wf = true) (w1 : (Lit.int .i64 a1).wf = true) (W : World) : Calls Tryd.prog 5 #[.int .i64 a0, .int .i64 a1, .bool a2] W fun e w' => e = .returned (.bool true) ∧ Below W.heap.size W w' :=
  Vai.law_of_eval (law_ok fun _ => 0) (args := #[.int .i64 a0, .int .i64 a1, .bool a2]) ⟨trivial, trivial, trivial, trivial⟩ (Vai.isT_true (saidAll a0 a1 a2)) W
/-- What the row lists. -/
noncomputable def laid : List (String × DataW Unit) := Rows.nameLimitsRow.laid
set_option maxRecDepth 100000 in
theorem lifted (os : Os) (started : os.Started) (H : Type) (enc : TypeId × Value → H) :
    ReturnsInHanded {} Tryd.checked os 5 .any (fun w args => (Rows.nameLimitsSpec.pre enc Tryd.prog Tryd.f5 [] false w args ∧ laidMetH Tryd.prog laid w) ∧ sizedMet enc Tryd.prog Tryd.f5 (OpenSpec.ofChange Rows.nameLimitsSpec) false w args)
      (Rows.nameLimitsSpec.post enc Tryd.prog Tryd.f5 false true false false) := by
  refine returnsInHanded_of_change_and (C := Tryd.checked) (X := fun w _ => laidMetH Tryd.prog laid w) (fun _ _ _ hh h => h.of_heap hh) own started (by kernel_rfl) Tryd.func5
    (ChangeSpec.witness_shaped (enc := enc) (C := Tryd.checked) (os := os) (X := fun w _ => laidMetH Tryd.prog laid w) false (World.laidAll Tryd.prog os laid) #[.int .i64 0, .int .i64 0, .bool false] 8 (World.laidAll_os _ _ _)
      (World.shaped_of_ZipB (by kernel_rfl) (by kernel_rfl)) (by kernel_rfl) (by kernel_rfl) (by kernel_rfl)
      (by rw [MakeChecks.laidMetH_plain _ _ _ (by kernel_rfl)]; exact laidMet_laidAll _ (by kernel_rfl) (by kernel_rfl))) ?_
  intro W base args ds gs before hval0 hW _ _ hL _
  have hval : ∀ (j : Nat) t v, Tryd.f5.params[j]? = some t → args[j]? = some v → Value.okWide Tryd.prog W .any base t v := hval0
  have hW' := hW
  obtain ⟨p, q, hA0, hV, rfl, hfz, hnd⟩ := hW
  have hA : DataW.TrodAll enc Tryd.prog W 0 (fun _ => true) true Tryd.f5.params.toList args.toList ds p := hA0
  rw [Tryd.params5] at hA hval
  obtain ⟨v0, vs0, d0, ds0, p0, q0, hargs, rfl, rfl, h0, r0⟩ := trodAll_cons hA
  obtain ⟨v1, vs1, d1, ds1, p1, q1, rfl, rfl, rfl, h1, r1⟩ := trodAll_cons r0
  obtain ⟨v2, vs2, d2, ds2, p2, q2, rfl, rfl, rfl, h2, r2⟩ := trodAll_cons r1
  obtain ⟨rfl, rfl, rfl⟩ := trodAll_nil r2
  obtain rfl : args = #[v0, v1, v2] := by cases args; simp_all
  obtain ⟨rfl, rfl⟩ := trodVars_none hV
  obtain ⟨a0, rfl, rfl, rfl, w0⟩ := open_int Tryd.underlying3 (hval 0 3 v0 rfl rfl) h0
  obtain ⟨a1, rfl, rfl, rfl, w1⟩ := open_int Tryd.underlying3 (hval 1 3 v1 rfl rfl) h1
  obtain ⟨a2, rfl, rfl, rfl⟩ := open_bool Tryd.underlying4 (hval 2 4 v2 rfl rfl) h2
  clear hA0 hval0
  refine (walk a0 a1 a2 w0 w1 W).mono fun e W' ⟨he, bel⟩ => ?_
  subst he
  exact ⟨_, rfl, _, _, _, [], _, [], hW', trodAll_mk1 (shut_bool Tryd.underlying4 _), (trodAll_cons_mk (shut_int Tryd.underlying3 w0) (trodAll_cons_mk (shut_int Tryd.underlying3 w1) (trodAll_cons_mk (shut_bool Tryd.underlying4 _) trodAll_mk0))), rfl, bel.frame _, fun h => by cases h⟩
theorem over : Rows.nameLimitsRow.holds Tryd.pinned (OpenSpec.ofChange Rows.nameLimitsSpec) :=
  OpenClaim.holds_of_wide 5 Tryd.f5 rfl rfl rfl rfl rfl rfl rfl ⟨rfl, rfl, rfl, rfl, rfl⟩ rfl rfl rfl rfl rfl (by kernel_rfl) Tryd.func5 (by kernel_rfl)
    (of_decide_eq_true (by kernel_rfl)) (by unfold Func.isWrapper; first | (rw [if_pos (by decide +kernel)]; kernel_rfl) | (rw [if_neg (by decide +kernel)]; exact ⟨rfl, rfl⟩))
    (fun os started H enc _ => lifted os started H enc)
theorem proved : Rows.NameLimitsCardSaid :=
  Claim7.holds_tied_plain_at .later [] [.data, .data, .data, .data, .pinned] true (true, "25272a18ad9f16ad56559ba22beed184f76f4074ab3cca018b31c9cbae16cf59") false over (fun _ h => by cases h) (by kernel_rfl) (fun _ h => by cases h) nameLimits_row_tie rfl ⟨rfl, rfl⟩ (by kernel_rfl) rfl
    (fun f fn hf hfn => by
      obtain rfl : f = 5 := Option.some.inj ((show Tryd.prog.funcNamed "concierge/conciergelaw4.NameLimits" = some 5 by kernel_rfl).symm.trans hf) |>.symm
      obtain rfl : fn = Tryd.f5 := (Option.some.inj (Tryd.func5.symm.trans hfn)).symm
      exact ⟨by kernel_rfl, fun j t ht => by
        rw [Tryd.params5] at ht
        have hm : t ∈ [3, 3, 4] := by simpa using Array.mem_of_getElem? ht
        have hall : ([3, 3, 4].all fun u => !Tryd.prog.wantsStandIn u) = true := by kernel_rfl
        exact (show Tryd.prog.wantsStandIn t = false by simpa using List.all_eq_true.1 hall t hm)⟩)
    (by kernel_rfl)
end Go.Proofs.YtljmghhldigkaaaDoor.namelimits
namespace Go.Proofs.YtljmghhldigkaaaDoor
/-- The card, under a short name, for the claim. -/
theorem namelimits_holds : Rows.NameLimitsCardSaid := namelimits.proved
end Go.Proofs.YtljmghhldigkaaaDoor
