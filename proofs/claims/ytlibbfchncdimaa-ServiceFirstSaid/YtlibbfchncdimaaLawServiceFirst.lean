/- The law ServiceFirst: the kernel runs the evaluator over its code, for each of the inputs that its guards let in, and the evaluator's word is the model's. -/
import Derived.Test.YtlibbfchncdimaaRows
import Derived.Test.YtlibbfchncdimaaVD
import Derived.WalkKit
import Derived.ProofKit
import Derived.OpenShut
import Derived.ShutString
import Derived.ChangeOld
import Derived.Below
import Derived.SizedLaws
namespace Go.Proofs.Ytlibbfchncdimaa.servicefirst
open Go.ChangeShapes Go.WideShapes Go.ChangeAt Go.RowKit
open Go.ChangeMaps (open_string shut_string)
set_option linter.unusedVariables false
set_option linter.unusedSimpArgs false
theorem own : ownKnob Try.prog.godebug = none := by kernel_rfl
/-- What is told of functions without a body. -/
noncomputable abbrev ext : Vai.Extn := Vai.extAll
noncomputable def plainCall : Vai.CallF := Vai.evalFn Try.prog ext Vai.noSumm (Vai.drawD Try.prog ext) 60
theorem plain_ok (G : Vai.Sym) : Vai.CallOk Try.prog G plainCall := Vai.evalFn_ok Vai.extAll_ok trivial Vai.noSumm_ok (Vai.drawD_ok Vai.extAll_ok trivial) 60
set_option maxRecDepth 100000 in
theorem begun_true : Vai.saidOf (plainCall 6 #[] Vai.mem0) = some true := by kernel_rfl
noncomputable def lawCall : Vai.CallF := Vai.evalFn Try.prog ext (Vai.trueS 6) (Vai.drawD Try.prog ext) 60
theorem law_ok (G : Vai.Sym) : Vai.CallOk Try.prog G lawCall := Vai.evalFn_ok Vai.extAll_ok trivial (Vai.trueS_ok (plain_ok G) begun_true) (Vai.drawD_ok Vai.extAll_ok trivial) 60
noncomputable def said (args : Array Value) : Bool := Vai.isT (Vai.saidOf (lawCall 5 args Vai.mem0))
set_option maxRecDepth 100000 in
theorem low0 (k : Nat) (a1 : Int) : (said #[.int .i64 (.negSucc k), .int .i64 a1]) = true := by kernel_rfl
set_option maxRecDepth 100000 in
theorem high0 (k : Nat) (a1 : Int) : (said #[.int .i64 (.ofNat (k + 10)), .int .i64 a1]) = true := by kernel_rfl
set_option maxRecDepth 100000 in
theorem under0 (a1 : Int) : (Vai.allB 1 fun j => said #[.int .i64 (.ofNat j), .int .i64 a1]) = true := by kernel_rfl
set_option maxRecDepth 100000 in
theorem low1 (k : Nat)  : (Vai.allB 9 fun i0 => said #[.int .i64 (.ofNat (i0 + 1)), .int .i64 (.negSucc k)]) = true := by kernel_rfl
set_option maxRecDepth 100000 in
theorem high1 (k : Nat)  : (Vai.allB 9 fun i0 => said #[.int .i64 (.ofNat (i0 + 1)), .int .i64 (.ofNat (k + 10))]) = true := by kernel_rfl
set_option maxRecDepth 100000 in
theorem under1  : (Vai.allB 9 fun i0 => Vai.allB 1 fun j => said #[.int .i64 (.ofNat (i0 + 1)), .int .i64 (.ofNat j)]) = true := by kernel_rfl
set_option maxRecDepth 100000 in
theorem in_0  : (Vai.allB 9 fun i1 => said #[.int .i64 (.ofNat 1), .int .i64 (.ofNat (i1 + 1))]) = true := by kernel_rfl
set_option maxRecDepth 100000 in
theorem in_1  : (Vai.allB 9 fun i1 => said #[.int .i64 (.ofNat 2), .int .i64 (.ofNat (i1 + 1))]) = true := by kernel_rfl
set_option maxRecDepth 100000 in
theorem in_2  : (Vai.allB 9 fun i1 => said #[.int .i64 (.ofNat 3), .int .i64 (.ofNat (i1 + 1))]) = true := by kernel_rfl
set_option maxRecDepth 100000 in
theorem in_3  : (Vai.allB 9 fun i1 => said #[.int .i64 (.ofNat 4), .int .i64 (.ofNat (i1 + 1))]) = true := by kernel_rfl
set_option maxRecDepth 100000 in
theorem in_4  : (Vai.allB 9 fun i1 => said #[.int .i64 (.ofNat 5), .int .i64 (.ofNat (i1 + 1))]) = true := by kernel_rfl
set_option maxRecDepth 100000 in
theorem in_5  : (Vai.allB 9 fun i1 => said #[.int .i64 (.ofNat 6), .int .i64 (.ofNat (i1 + 1))]) = true := by kernel_rfl
set_option maxRecDepth 100000 in
theorem in_6  : (Vai.allB 9 fun i1 => said #[.int .i64 (.ofNat 7), .int .i64 (.ofNat (i1 + 1))]) = true := by kernel_rfl
set_option maxRecDepth 100000 in
theorem in_7  : (Vai.allB 9 fun i1 => said #[.int .i64 (.ofNat 8), .int .i64 (.ofNat (i1 + 1))]) = true := by kernel_rfl
set_option maxRecDepth 100000 in
theorem in_8  : (Vai.allB 9 fun i1 => said #[.int .i64 (.ofNat 9), .int .i64 (.ofNat (i1 + 1))]) = true := by kernel_rfl
theorem saidAll (a0 : Int) (a1 : Int) : said #[.int .i64 a0, .int .i64 a1] = true := by
  rcases a0 with m0 | k
  case negSucc => exact (low0 k a1)
  by_cases u0 : m0 < 1
  · exact Vai.allB_spec (under0  a1) m0 u0
  by_cases t0 : m0 ≤ 9
  case neg => obtain ⟨k, rfl⟩ : ∃ k, m0 = k + 10 := ⟨m0 - 10, by omega⟩; exact (high0 k a1)
  obtain ⟨i0, rfl⟩ : ∃ k, m0 = k + 1 := ⟨m0 - 1, by omega⟩
  have h0 : i0 < 9 := by omega
  rcases a1 with m1 | k
  case negSucc => exact (Vai.allB_spec (low1 k ) i0 h0)
  by_cases u1 : m1 < 1
  · exact Vai.allB_spec (Vai.allB_spec under1 i0 h0) m1 u1
  by_cases t1 : m1 ≤ 9
  case neg => obtain ⟨k, rfl⟩ : ∃ k, m1 = k + 10 := ⟨m1 - 10, by omega⟩; exact (Vai.allB_spec (high1 k ) i0 h0)
  obtain ⟨i1, rfl⟩ : ∃ k, m1 = k + 1 := ⟨m1 - 1, by omega⟩
  have h1 : i1 < 9 := by omega
  rcases (show i0 = 0 ∨ i0 = 1 ∨ i0 = 2 ∨ i0 = 3 ∨ i0 = 4 ∨ i0 = 5 ∨ i0 = 6 ∨ i0 = 7 ∨ i0 = 8 by omega) with rfl | rfl | rfl | rfl | rfl | rfl | rfl | rfl | rfl
  · exact (Vai.allB_spec in_0 i1 h1)
  · exact (Vai.allB_spec in_1 i1 h1)
  · exact (Vai.allB_spec in_2 i1 h1)
  · exact (Vai.allB_spec in_3 i1 h1)
  · exact (Vai.allB_spec in_4 i1 h1)
  · exact (Vai.allB_spec in_5 i1 h1)
  · exact (Vai.allB_spec in_6 i1 h1)
  · exact (Vai.allB_spec in_7 i1 h1)
  · exact (Vai.allB_spec in_8 i1 h1)
theorem walk (a0 : Int) (a1 : Int) (w0 : (Lit.int .i64 a0).wf = true) (w1 : (Lit.int .i64 a1).wf = true) (W : World) : Calls Try.prog 5 #[.int .i64 a0, .int .i64 a1] W fun e w' => e = .returned (.bool true) ∧ Below W.heap.size W w' :=
  Vai.law_of_eval (law_ok fun _ => 0) (args := #[.int .i64 a0, .int .i64 a1]) ⟨trivial, trivial, trivial⟩ (Vai.isT_true (saidAll a0 a1)) W
set_option maxRecDepth 100000 in
theorem lifted (os : Os) (started : os.Started) (H : Type) (enc : TypeId × Value → H) :
    ReturnsInHanded {} Try.checked os 5 .any (Rows.serviceFirstSpec.pre6 enc Try.prog Try.f5 Rows.serviceFirstRow.domain false) (Rows.serviceFirstSpec.post enc Try.prog Try.f5 false true false false) := by
  refine returnsInHanded_of_change_sized (C := Try.checked) own started (by kernel_rfl) Try.func5
    (ChangeSpec.witness6 (enc := enc) (C := Try.checked) false ⟨#[], #[.int .i64 0, .int .i64 0], []⟩ 8 (by kernel_rfl) (by kernel_rfl) (by kernel_rfl) (by kernel_rfl)) ?_
  intro W base args ds gs before hval0 hW hcnd hsz0 _
  have hval : ∀ (j : Nat) t v, Try.f5.params[j]? = some t → args[j]? = some v → Value.okWide Try.prog W .any base t v := hval0
  have hW' := hW
  obtain ⟨p, q, hA0, hV, rfl, hfz, hnd⟩ := hW
  have hA : DataW.TrodAll enc Try.prog W 0 (fun _ => true) true Try.f5.params.toList args.toList ds p := hA0
  rw [Try.params5] at hA hval
  obtain ⟨v0, vs0, d0, ds0, p0, q0, hargs, rfl, rfl, h0, r0⟩ := trodAll_cons hA
  obtain ⟨v1, vs1, d1, ds1, p1, q1, rfl, rfl, rfl, h1, r1⟩ := trodAll_cons r0
  obtain ⟨rfl, rfl, rfl⟩ := trodAll_nil r1
  obtain rfl : args = #[v0, v1] := by cases args; simp_all
  obtain ⟨rfl, rfl⟩ := trodVars_none hV
  obtain ⟨a0, rfl, rfl, rfl, w0⟩ := open_int Try.underlying3 (hval 0 3 v0 rfl rfl) h0
  obtain ⟨a1, rfl, rfl, rfl, w1⟩ := open_int Try.underlying3 (hval 1 3 v1 rfl rfl) h1
  clear hA0 hval0 hsz0
  refine (walk a0 a1 w0 w1 W).mono fun e W' ⟨he, bel⟩ => ?_
  subst he
  exact ⟨_, rfl, _, _, _, [], _, [], hW', trodAll_mk1 (shut_bool Try.underlying4 _), (trodAll_cons_mk (shut_int Try.underlying3 w0) (trodAll_cons_mk (shut_int Try.underlying3 w1) trodAll_mk0)), rfl, bel.frame _, fun h => by cases h⟩
theorem over : Rows.serviceFirstRow.holds Try.pinned (OpenSpec.ofChange Rows.serviceFirstSpec) :=
  OpenClaim.holds_of_wide 5 Try.f5 rfl rfl rfl rfl rfl rfl rfl ⟨rfl, rfl, rfl, rfl, rfl⟩ rfl rfl rfl rfl rfl (by kernel_rfl) Try.func5 (by kernel_rfl)
    (of_decide_eq_true (by kernel_rfl)) (by unfold Func.isWrapper; first | (rw [if_pos (by decide +kernel)]; kernel_rfl) | (rw [if_neg (by decide +kernel)]; exact ⟨rfl, rfl⟩))
    (fun os started H enc _ => lifted os started H enc)
theorem proved : Rows.ServiceFirstSaid := over
end Go.Proofs.Ytlibbfchncdimaa.servicefirst
namespace Go.Proofs.Ytlibbfchncdimaa
/-- The row, under a short name, for the claim. -/
theorem servicefirst_holds : Rows.ServiceFirstSaid := servicefirst.proved
end Go.Proofs.Ytlibbfchncdimaa
