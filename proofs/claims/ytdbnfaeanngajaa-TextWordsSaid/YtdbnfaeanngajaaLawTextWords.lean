/- The law TextWords: whatever its arguments, it returns true: by a walk through its code, over contracts of what it calls. -/
import Derived.Test.YtdbnfaeanngajaaRows
import Derived.Test.YtdbnfaeanngajaaTA
import Derived.Test.YtdbnfaeanngajaaBG
import Derived.WalkKit
import Derived.ProofKit
import Derived.OpenShut
import Derived.ShutString
import Derived.ChangeOld
import Derived.Below
import Derived.SizedLaws
namespace Go.Proofs.Ytdbnfaeanngajaa.textwords
open Go.ChangeShapes Go.WideShapes Go.ChangeAt Go.RowKit
open Go.ChangeMaps (open_string shut_string)
set_option linter.unusedVariables false
set_option linter.unusedSimpArgs false
theorem own : ownKnob Try.prog.godebug = none := by kernel_rfl
open tw
theorem cut_calls (s : ByteArray) (n : Int) (W : World) (hn : 0 ≤ n) (hb : s.size ≤ 9223372036854775807) :
    Calls Try.prog 17 #[.string s, .int .i64 n] W fun e w' => (∃ t : ByteArray, e = .returned (.string t) ∧ t.size ≤ s.size) ∧ w' = W := by
  by_cases h : (s.size : Int) ≤ n
  · go_enter Try.func17, Try.ntmps17
    go_wp2
    go_ret
    exact ⟨⟨s, rfl, Nat.le_refl _⟩, rfl⟩
  · go_enter Try.func17, Try.ntmps17
    go_wp2
    go_ret
    refine ⟨⟨_, rfl, ?_⟩, rfl⟩
    rw [ByteArray.size_extract]
    omega
set_option maxRecDepth 1000000 in
set_option maxHeartbeats 4000000 in
theorem walk (a0 : ByteArray) (a1 : Int) (hs : a0.size ≤ 140737488351232) (w1 : (Lit.int .i64 a1).wf = true) (W : World) : Calls Try.prog 4 #[.string a0, .int .i64 a1] W fun e w' => e = .returned (.bool true) ∧ Below W.heap.size W w' := by
  go_enter Try.func4, Try.ntmps4
  go_wp2_with (first
    | (go_at_call 12; refine (bg.text_begun _).mono ?_; rintro e w1 ⟨rfl, hb1⟩)
    | (go_at_call 17; refine (cut_calls a0 100 _ (by decide) (by omega)).mono ?_; rintro e w2 ⟨⟨t, rfl, ht⟩, rfl⟩)
    | (go_at_call 18; refine (num_calls t a1 _ (by omega)).mono ?_; rintro e w3 ⟨rfl, rfl⟩)
    | (go_at_call 19; refine (rnum_calls t a1 _ (by omega)).mono ?_; rintro e w3 ⟨rfl, rfl⟩)
    | (go_at_call 20; refine (fold_calls t _ (by omega)).mono ?_; rintro e w4 ⟨rfl, hb4⟩)
    | (go_at_call 21; refine (rfold_calls t _ (by omega)).mono ?_; rintro e w5 ⟨rfl, hb5⟩)
    | go_in)
  go_ret
  have c1 := hb1.size
  have c4 := hb4.size
  exact ⟨rfl, (hb1.trans (hb4.mono c1)).trans (hb5.mono (Nat.le_trans c1 c4))⟩
set_option maxRecDepth 100000 in
theorem lifted (os : Os) (started : os.Started) (H : Type) (enc : TypeId × Value → H) :
    ReturnsInHanded {} Try.checked os 4 .any (Rows.textWordsSpec.pre6 enc Try.prog Try.f4 Rows.textWordsRow.domain false) (Rows.textWordsSpec.post enc Try.prog Try.f4 false true false false) := by
  refine returnsInHanded_of_change_sized (C := Try.checked) own started (by kernel_rfl) Try.func4
    (ChangeSpec.witness6 (enc := enc) (C := Try.checked) false ⟨#[], #[.string ⟨#[]⟩, .int .i64 0], []⟩ 8 (by kernel_rfl) (by kernel_rfl) (by kernel_rfl) (by kernel_rfl)) ?_
  intro W base args ds gs before hval0 hW hcnd hsz0 _
  have hval : ∀ (j : Nat) t v, Try.f4.params[j]? = some t → args[j]? = some v → Value.okWide Try.prog W .any base t v := hval0
  have hW' := hW
  obtain ⟨p, q, hA0, hV, rfl, hfz, hnd⟩ := hW
  have hA : DataW.TrodAll enc Try.prog W 0 (fun _ => true) true Try.f4.params.toList args.toList ds p := hA0
  rw [Try.params4] at hA hval
  obtain ⟨v0, vs0, d0, ds0, p0, q0, hargs, rfl, rfl, h0, r0⟩ := trodAll_cons hA
  obtain ⟨v1, vs1, d1, ds1, p1, q1, rfl, rfl, rfl, h1, r1⟩ := trodAll_cons r0
  obtain ⟨rfl, rfl, rfl⟩ := trodAll_nil r1
  obtain rfl : args = #[v0, v1] := by cases args; simp_all
  obtain ⟨rfl, rfl⟩ := trodVars_none hV
  obtain ⟨a0, rfl, rfl, rfl, u0⟩ := open_string Try.underlying9 (hval 0 9 v0 rfl rfl) h0
  obtain ⟨a1, rfl, rfl, rfl, w1⟩ := open_int Try.underlying3 (hval 1 3 v1 rfl rfl) h1
  have w0 : a0.size ≤ 140737488351232 := sized_string hsz0 (j := 0) (t := 9) rfl rfl
  clear hA0 hval0 hsz0
  refine (walk a0 a1 w0 w1 W).mono fun e W' ⟨he, bel⟩ => ?_
  subst he
  exact ⟨_, rfl, _, _, _, [], _, [], hW', trodAll_mk1 (shut_bool Try.underlying4 _), (trodAll_cons_mk (shut_string Try.underlying9 u0) (trodAll_cons_mk (shut_int Try.underlying3 w1) trodAll_mk0)), rfl, bel.frame _, fun h => by cases h⟩
theorem over : Rows.textWordsRow.holds Try.pinned (OpenSpec.ofChange Rows.textWordsSpec) :=
  OpenClaim.holds_of_wide 4 Try.f4 rfl rfl rfl rfl rfl rfl rfl ⟨rfl, rfl, rfl, rfl, rfl⟩ rfl rfl rfl rfl rfl (by kernel_rfl) Try.func4 (by kernel_rfl)
    (of_decide_eq_true (by kernel_rfl)) (by unfold Func.isWrapper; first | (rw [if_pos (by decide +kernel)]; kernel_rfl) | (rw [if_neg (by decide +kernel)]; exact ⟨rfl, rfl⟩))
    (fun os started H enc _ => lifted os started H enc)
theorem proved : Rows.TextWordsSaid := over
end Go.Proofs.Ytdbnfaeanngajaa.textwords
namespace Go.Proofs.Ytdbnfaeanngajaa
/-- The row, under a short name, for the claim. -/
theorem textwords_holds : Rows.TextWordsSaid := textwords.proved
end Go.Proofs.Ytdbnfaeanngajaa
