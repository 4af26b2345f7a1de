/- The law TextLong: the kernel runs the evaluator over its code, for each of the inputs that its guards let in, and the evaluator's word is the model's. -/
import Derived.Test.YtmlclgmcacjeaaaRows
import Derived.Test.YtmlclgmcacjeaaaVD
import Derived.WalkKit
import Derived.ProofKit
import Derived.OpenShut
import Derived.ShutString
import Derived.ChangeOld
import Derived.Below
import Derived.SizedLaws
namespace Go.Proofs.Ytmlclgmcacjeaaa.textlong
open Go.ChangeShapes Go.WideShapes Go.ChangeAt Go.RowKit
open Go.ChangeMaps (open_string shut_string)
set_option linter.unusedVariables false
set_option linter.unusedSimpArgs false
theorem own : ownKnob Try.prog.godebug = none := by kernel_rfl
/-- What is told of functions without a body. -/
noncomputable abbrev ext : Vai.Extn := Vai.extFull Try.prog
noncomputable def plainCall : Vai.CallF := Vai.evalFn Try.prog ext Vai.noSumm (Vai.drawD Try.prog ext) 600
theorem plain_ok (G : Vai.Sym) : Vai.CallOk Try.prog G plainCall := Vai.evalFn_ok Vai.extFull_ok trivial Vai.noSumm_ok (Vai.drawD_ok Vai.extFull_ok trivial) 600
set_option maxRecDepth 100000 in
theorem begun_true : Vai.saidOf (plainCall 7 #[] Vai.mem0) = some true := by kernel_rfl
noncomputable def lawCall : Vai.CallF := Vai.evalFn Try.prog ext (Vai.trueS 7) (Vai.drawD Try.prog ext) 600
theorem law_ok (G : Vai.Sym) : Vai.CallOk Try.prog G lawCall := Vai.evalFn_ok Vai.extFull_ok trivial (Vai.trueS_ok (plain_ok G) begun_true) (Vai.drawD_ok Vai.extFull_ok trivial) 600
noncomputable def said (args : Array Value) : Bool := Vai.isT (Vai.saidOf (lawCall 5 args Vai.mem0))
set_option maxRecDepth 100000 in
theorem low0 (k : Nat) (a1 : Bool) : (said #[.int .i64 (.negSucc k), .bool a1]) = true := by kernel_rfl
set_option maxRecDepth 100000 in
theorem high0 (k : Nat) (a1 : Bool) : (said #[.int .i64 (.ofNat (k + 521)), .bool a1]) = true := by kernel_rfl
set_option maxRecDepth 100000 in
theorem under0 (a1 : Bool) : (Vai.allB 505 fun j => said #[.int .i64 (.ofNat j), .bool a1]) = true := by kernel_rfl
set_option maxRecDepth 100000 in
theorem int_0  : (said #[.int .i64 (.ofNat 505), .bool true]) = true := by kernel_rfl
set_option maxRecDepth 100000 in
theorem int_1  : (said #[.int .i64 (.ofNat 506), .bool true]) = true := by kernel_rfl
set_option maxRecDepth 100000 in
theorem int_2  : (said #[.int .i64 (.ofNat 507), .bool true]) = true := by kernel_rfl
set_option maxRecDepth 100000 in
theorem int_3  : (said #[.int .i64 (.ofNat 508), .bool true]) = true := by kernel_rfl
set_option maxRecDepth 100000 in
theorem int_4  : (said #[.int .i64 (.ofNat 509), .bool true]) = true := by kernel_rfl
set_option maxRecDepth 100000 in
theorem int_5  : (said #[.int .i64 (.ofNat 510), .bool true]) = true := by kernel_rfl
set_option maxRecDepth 100000 in
theorem int_6  : (said #[.int .i64 (.ofNat 511), .bool true]) = true := by kernel_rfl
set_option maxRecDepth 100000 in
theorem int_7  : (said #[.int .i64 (.ofNat 512), .bool true]) = true := by kernel_rfl
set_option maxRecDepth 100000 in
theorem int_8  : (said #[.int .i64 (.ofNat 513), .bool true]) = true := by kernel_rfl
set_option maxRecDepth 100000 in
theorem int_9  : (said #[.int .i64 (.ofNat 514), .bool true]) = true := by kernel_rfl
set_option maxRecDepth 100000 in
theorem int_10  : (said #[.int .i64 (.ofNat 515), .bool true]) = true := by kernel_rfl
set_option maxRecDepth 100000 in
theorem int_11  : (said #[.int .i64 (.ofNat 516), .bool true]) = true := by kernel_rfl
set_option maxRecDepth 100000 in
theorem int_12  : (said #[.int .i64 (.ofNat 517), .bool true]) = true := by kernel_rfl
set_option maxRecDepth 100000 in
theorem int_13  : (said #[.int .i64 (.ofNat 518), .bool true]) = true := by kernel_rfl
set_option maxRecDepth 100000 in
theorem int_14  : (said #[.int .i64 (.ofNat 519), .bool true]) = true := by kernel_rfl
set_option maxRecDepth 100000 in
theorem int_15  : (said #[.int .i64 (.ofNat 520), .bool true]) = true := by kernel_rfl
set_option maxRecDepth 100000 in
theorem inf_0  : (said #[.int .i64 (.ofNat 505), .bool false]) = true := by kernel_rfl
set_option maxRecDepth 100000 in
theorem inf_1  : (said #[.int .i64 (.ofNat 506), .bool false]) = true := by kernel_rfl
set_option maxRecDepth 100000 in
theorem inf_2  : (said #[.int .i64 (.ofNat 507), .bool false]) = true := by kernel_rfl
set_option maxRecDepth 100000 in
theorem inf_3  : (said #[.int .i64 (.ofNat 508), .bool false]) = true := by kernel_rfl
set_option maxRecDepth 100000 in
theorem inf_4  : (said #[.int .i64 (.ofNat 509), .bool false]) = true := by kernel_rfl
set_option maxRecDepth 100000 in
theorem inf_5  : (said #[.int .i64 (.ofNat 510), .bool false]) = true := by kernel_rfl
set_option maxRecDepth 100000 in
theorem inf_6  : (said #[.int .i64 (.ofNat 511), .bool false]) = true := by kernel_rfl
set_option maxRecDepth 100000 in
theorem inf_7  : (said #[.int .i64 (.ofNat 512), .bool false]) = true := by kernel_rfl
set_option maxRecDepth 100000 in
theorem inf_8  : (said #[.int .i64 (.ofNat 513), .bool false]) = true := by kernel_rfl
set_option maxRecDepth 100000 in
theorem inf_9  : (said #[.int .i64 (.ofNat 514), .bool false]) = true := by kernel_rfl
set_option maxRecDepth 100000 in
theorem inf_10  : (said #[.int .i64 (.ofNat 515), .bool false]) = true := by kernel_rfl
set_option maxRecDepth 100000 in
theorem inf_11  : (said #[.int .i64 (.ofNat 516), .bool false]) = true := by kernel_rfl
set_option maxRecDepth 100000 in
theorem inf_12  : (said #[.int .i64 (.ofNat 517), .bool false]) = true := by kernel_rfl
set_option maxRecDepth 100000 in
theorem inf_13  : (said #[.int .i64 (.ofNat 518), .bool false]) = true := by kernel_rfl
set_option maxRecDepth 100000 in
theorem inf_14  : (said #[.int .i64 (.ofNat 519), .bool false]) = true := by kernel_rfl
set_option maxRecDepth 100000 in
theorem inf_15  : (said #[.int .i64 (.ofNat 520), .bool false]) = true := by kernel_rfl
theorem saidAll (a0 : Int) (a1 : Bool) : said #[.int .i64 a0, .bool a1] = true := by
  rcases a0 with m0 | k
  case negSucc => exact (low0 k a1)
  by_cases u0 : m0 < 505
  · exact Vai.allB_spec (under0  a1) m0 u0
  by_cases t0 : m0 ≤ 520
  case neg => obtain ⟨k, rfl⟩ : ∃ k, m0 = k + 521 := ⟨m0 - 521, by omega⟩; exact (high0 k a1)
  obtain ⟨i0, rfl⟩ : ∃ k, m0 = k + 505 := ⟨m0 - 505, by omega⟩
  have h0 : i0 < 16 := by omega
  cases a1
  case true =>
    rcases (show i0 = 0 ∨ i0 = 1 ∨ i0 = 2 ∨ i0 = 3 ∨ i0 = 4 ∨ i0 = 5 ∨ i0 = 6 ∨ i0 = 7 ∨ i0 = 8 ∨ i0 = 9 ∨ i0 = 10 ∨ i0 = 11 ∨ i0 = 12 ∨ i0 = 13 ∨ i0 = 14 ∨ i0 = 15 by omega) with rfl | rfl | rfl | rfl | rfl | rfl | rfl | rfl | rfl | rfl | rfl | rfl | rfl | rfl | rfl | rfl
    · exact int_0
    · exact int_1
    · exact int_2
    · exact int_3
    · exact int_4
    · exact int_5
    · exact int_6
    · exact int_7
    · exact int_8
    · exact int_9
    · exact int_10
    · exact int_11
    · exact int_12
    · exact int_13
    · exact int_14
    · exact int_15
  case false =>
    rcases (show i0 = 0 ∨ i0 = 1 ∨ i0 = 2 ∨ i0 = 3 ∨ i0 = 4 ∨ i0 = 5 ∨ i0 = 6 ∨ i0 = 7 ∨ i0 = 8 ∨ i0 = 9 ∨ i0 = 10 ∨ i0 = 11 ∨ i0 = 12 ∨ i0 = 13 ∨ i0 = 14 ∨ i0 = 15 by omega) with rfl | rfl | rfl | rfl | rfl | rfl | rfl | rfl | rfl | rfl | rfl | rfl | rfl | rfl | rfl | rfl
    · exact inf_0
    · exact inf_1
    · exact inf_2
    · exact inf_3
    · exact inf_4
    · exact inf_5
    · exact inf_6
    · exact inf_7
    · exact inf_8
    · exact inf_9
    · exact inf_10
    · exact inf_11
    · exact inf_12
    · exact inf_13
    · exact inf_14
    · exact inf_15
theorem walk (a0 : Int) (a1 : Bool) (w0 : (Lit.int .i64 a0).wf = true) (W : World) : Calls Try.prog 5 #[.int .i64 a0, .bool a1] W fun e w' => e = .returned (.bool true) ∧ Below W.heap.size W w' :=
  Vai.law_of_eval (law_ok fun _ => 0) (args := #[.int .i64 a0, .bool a1]) ⟨trivial, trivial, trivial⟩ (Vai.isT_true (saidAll a0 a1)) W
set_option maxRecDepth 100000 in
theorem lifted (os : Os) (started : os.Started) (H : Type) (enc : TypeId × Value → H) :
    ReturnsInHanded {} Try.checked os 5 .any (Rows.textLongSpec.pre6 enc Try.prog Try.f5 Rows.textLongRow.domain false) (Rows.textLongSpec.post enc Try.prog Try.f5 false true false false) := by
  refine returnsInHanded_of_change_sized (C := Try.checked) own started (by kernel_rfl) Try.func5
    (ChangeSpec.witness6 (enc := enc) (C := Try.checked) false ⟨#[], #[.int .i64 0, .bool false], []⟩ 8 (by kernel_rfl) (by kernel_rfl) (by kernel_rfl) (by kernel_rfl)) ?_
  intro W base args ds gs before hval0 hW hcnd hsz0 _
  have hval : ∀ (j : Nat) t v, Try.f5.params[j]? = some t → args[j]? = some v → Value.okWide Try.prog W .any base t v := hval0
  have hW' := hW
  obtain ⟨p, q, hA0, hV, rfl, hfz, hnd⟩ := hW
  have hA : DataW.TrodAll enc Try.prog W 0 (fun _ => true) true Try.f5.params.toList args.toList ds p := hA0
  rw [Try.params5] at hA hval
  obtain ⟨v0, vs0, d0, ds0, p0, q0, hargs, rfl, rfl, h0, r0⟩ := trodAll_cons hA
  obtain ⟨v1, vs1, d1, ds1, p1, q1, rfl, rfl, rfl, h1, r1⟩ := trodAll_cons r0
  obtain ⟨rfl, rfl, rfl⟩ := trodAll_nil r1
  obtain rfl : args = #[v0, v1] := by cases args; simp_all
  obtain ⟨rfl, rfl⟩ := trodVars_none hV
  obtain ⟨a0, rfl, rfl, rfl, w0⟩ := open_int Try.underlying3 (hval 0 3 v0 rfl rfl) h0
  obtain ⟨a1, rfl, rfl, rfl⟩ := open_bool Try.underlying4 (hval 1 4 v1 rfl rfl) h1
  clear hA0 hval0 hsz0
  refine (walk a0 a1 w0 W).mono fun e W' ⟨he, bel⟩ => ?_
  subst he
  exact ⟨_, rfl, _, _, _, [], _, [], hW', trodAll_mk1 (shut_bool Try.underlying4 _), (trodAll_cons_mk (shut_int Try.underlying3 w0) (trodAll_cons_mk (shut_bool Try.underlying4 _) trodAll_mk0)), rfl, bel.frame _, fun h => by cases h⟩
theorem over : Rows.textLongRow.holds Try.pinned (OpenSpec.ofChange Rows.textLongSpec) :=
  OpenClaim.holds_of_wide 5 Try.f5 rfl rfl rfl rfl rfl rfl rfl ⟨rfl, rfl, rfl, rfl, rfl⟩ rfl rfl rfl rfl rfl (by kernel_rfl) Try.func5 (by kernel_rfl)
    (of_decide_eq_true (by kernel_rfl)) (by unfold Func.isWrapper; first | (rw [if_pos (by decide +kernel)]; kernel_rfl) | (rw [if_neg (by decide +kernel)]; exact ⟨rfl, rfl⟩))
    (fun os started H enc _ => lifted os started H enc)
theorem proved : Rows.TextLongSaid := over
end Go.Proofs.Ytmlclgmcacjeaaa.textlong
namespace Go.Proofs.Ytmlclgmcacjeaaa
/-- The row, under a short name, for the claim. -/
theorem textlong_holds : Rows.TextLongSaid := textlong.proved
end Go.Proofs.Ytmlclgmcacjeaaa
