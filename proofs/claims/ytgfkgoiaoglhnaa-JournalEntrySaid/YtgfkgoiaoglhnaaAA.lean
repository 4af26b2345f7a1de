/- Action: what right, the closure, index, Action and the cut of a text compute. -/
import Derived.Test.YtgfkgoiaoglhnaaProg
import Derived.WalkKit
import Derived.ProofKit
import Derived.Lib.Hide
import Derived.WalkLawsBesides
import Derived.WalkSpells
import Derived.Deep.RegionWith
import Derived.Test.YtgfkgoiaoglhnaaLB
namespace Go.Proofs.Ytgfkgoiaoglhnaa.ac
open Go Go.RowKit
set_option linter.unusedVariables false
set_option linter.unusedSimpArgs false
/-- A step: its source and what it does at the four outcomes. -/
structure ST where
  src : ByteArray
  d0 : Int
  d1 : Int
  d2 : Int
  d3 : Int
def ST.act (x : ST) : Nat → Int
  | 0 => x.d0
  | 1 => x.d1
  | 2 => x.d2
  | _ => x.d3
def stCells (x : ST) : List Value := [.string x.src, .int .i64 x.d0, .int .i64 x.d1, .int .i64 x.d2, .int .i64 x.d3]
abbrev stV (x : ST) : Value := .agg #[.string x.src, .int .i64 x.d0, .int .i64 x.d1, .int .i64 x.d2, .int .i64 x.d3]
def okA (i : Nat) (a : Int) : Bool := decide (1 ≤ a) && decide (a ≤ 3) && !(decide (a = 3) && decide (0 < i))
def rightB (x : ST) : Bool := okA 0 x.d0 && okA 1 x.d1 && okA 2 x.d2 && okA 3 x.d3 && !x.src.toList.isEmpty
theorem right_no {x : ST} (k : Nat) (hk : k < 4) (h : okA k (x.act k) = false) : rightB x = false := by
  unfold rightB
  rcases (show k = 0 ∨ k = 1 ∨ k = 2 ∨ k = 3 by omega) with rfl | rfl | rfl | rfl <;> simp only [ST.act] at h <;> simp [h]
theorem ok_upto {x : ST} {k : Nat} (h : ∀ j, j < k → okA j (x.act j) = true) (h1 : okA k (x.act k) = true) : ∀ j, j < k + 1 → okA j (x.act j) = true := by
  intro j hj
  rcases (show j < k ∨ j = k by omega) with g | rfl
  · exact h j g
  · exact h1
theorem okA_low {i : Nat} {a : Int} (h : a < 1) : okA i a = false := by simp [okA]; omega
theorem okA_high {i : Nat} {a : Int} (h : 3 < a) : okA i a = false := by simp [okA]; omega
theorem ix0 (a b c d : Int) (w : World) : (Instr.index 35 (.agg #[.int .i64 a, .int .i64 b, .int .i64 c, .int .i64 d]) (.int .i64 0)).run Try.prog w = .ok (.int .i64 a) w := by kernel_rfl
theorem ix1 (a b c d : Int) (w : World) : (Instr.index 35 (.agg #[.int .i64 a, .int .i64 b, .int .i64 c, .int .i64 d]) (.int .i64 1)).run Try.prog w = .ok (.int .i64 b) w := by kernel_rfl
theorem ix2 (a b c d : Int) (w : World) : (Instr.index 35 (.agg #[.int .i64 a, .int .i64 b, .int .i64 c, .int .i64 d]) (.int .i64 2)).run Try.prog w = .ok (.int .i64 c) w := by kernel_rfl
theorem ix3 (a b c d : Int) (w : World) : (Instr.index 35 (.agg #[.int .i64 a, .int .i64 b, .int .i64 c, .int .i64 d]) (.int .i64 3)).run Try.prog w = .ok (.int .i64 d) w := by kernel_rfl
set_option maxRecDepth 100000 in
set_option maxHeartbeats 4000000 in
theorem right_calls (x : ST) (W : World) : Calls Try.prog 42 #[stV x] W fun e w' => e = .returned (.bool (rightB x)) ∧ Below W.heap.size W w' := by
  have HW := Lib.hid (lb.below_alloc W (.cells #[.string x.src, .int .i64 x.d0, .int .i64 x.d1, .int .i64 x.d2, .int .i64 x.d3] 37))
  go_enter Try.func42, Try.ntmps42
  go_wp2
  go_loop [7] (fun i => ∃ k : Nat, k ≤ 4 ∧ i = .int .i64 k ∧ ∀ j, j < k → okA j (x.act j) = true) (fun i => 4 - (intOf i).toNat)
  case atStart => exact ⟨0, by omega, rfl, fun j hj => absurd hj (Nat.not_lt_zero _)⟩
  case round =>
    obtain ⟨k, hk, rfl, hj⟩ := hrel
    have HJ := Lib.hid hj
    clear hj
    rcases (show k = 0 ∨ k = 1 ∨ k = 2 ∨ k = 3 ∨ k = 4 by omega) with rfl | rfl | rfl | rfl | rfl
    · have hix := ix0 x.d0 x.d1 x.d2 x.d3
      rcases (show x.d0 < 1 ∨ 3 < x.d0 ∨ (3 ≤ x.d0 ∧ x.d0 ≤ 3) ∨ (1 ≤ x.d0 ∧ x.d0 < 3) by omega) with h | h | ⟨h, h2⟩ | ⟨h, h'⟩
      · have hr := Lib.hid (right_no (x := x) 0 (by omega) (okA_low h))
        go_wp2
        all_goals (go_ret; exact ⟨by rw [hr.out]; rfl, HW.out⟩)
      · have hr := Lib.hid (right_no (x := x) 0 (by omega) (okA_high h))
        go_wp2
        all_goals (go_ret; exact ⟨by rw [hr.out]; rfl, HW.out⟩)
      · have HU := Lib.hid (ok_upto HJ.out (by show okA 0 x.d0 = true; have := (show x.d0 = 3 by omega); simp [okA, this]))
        have g3 : (x.d0 == 3) = true := by simp; omega
        go_wp2
        all_goals (go_round; (case rel => exact ⟨1, by omega, by go_num, HU.out⟩); (case measure => simp [intOf]))
      · have HU := Lib.hid (ok_upto HJ.out (by show okA 0 x.d0 = true; simp [okA]; omega))
        have g3 : (x.d0 == 3) = false := by simp; omega
        go_wp2
        all_goals (go_round; (case rel => exact ⟨1, by omega, by go_num, HU.out⟩); (case measure => simp [intOf]))
    · have hix := ix1 x.d0 x.d1 x.d2 x.d3
      rcases (show x.d1 < 1 ∨ 3 < x.d1 ∨ (3 ≤ x.d1 ∧ x.d1 ≤ 3) ∨ (1 ≤ x.d1 ∧ x.d1 < 3) by omega) with h | h | ⟨h, h2⟩ | ⟨h, h'⟩
      · have hr := Lib.hid (right_no (x := x) 1 (by omega) (okA_low h))
        go_wp2
        all_goals (go_ret; exact ⟨by rw [hr.out]; rfl, HW.out⟩)
      · have hr := Lib.hid (right_no (x := x) 1 (by omega) (okA_high h))
        go_wp2
        all_goals (go_ret; exact ⟨by rw [hr.out]; rfl, HW.out⟩)
      · have hr := Lib.hid (right_no (x := x) 1 (by omega) (by show okA 1 x.d1 = false; have := (show x.d1 = 3 by omega); simp [okA, this]))
        have g3 : (x.d1 == 3) = true := by simp; omega
        go_wp2
        all_goals (go_ret; exact ⟨by rw [hr.out]; rfl, HW.out⟩)
      · have HU := Lib.hid (ok_upto HJ.out (by show okA 1 x.d1 = true; simp [okA]; omega))
        have g3 : (x.d1 == 3) = false := by simp; omega
        go_wp2
        all_goals (go_round; (case rel => exact ⟨2, by omega, by go_num, HU.out⟩); (case measure => simp [intOf]))
    · have hix := ix2 x.d0 x.d1 x.d2 x.d3
      rcases (show x.d2 < 1 ∨ 3 < x.d2 ∨ (3 ≤ x.d2 ∧ x.d2 ≤ 3) ∨ (1 ≤ x.d2 ∧ x.d2 < 3) by omega) with h | h | ⟨h, h2⟩ | ⟨h, h'⟩
      · have hr := Lib.hid (right_no (x := x) 2 (by omega) (okA_low h))
        go_wp2
        all_goals (go_ret; exact ⟨by rw [hr.out]; rfl, HW.out⟩)
      · have hr := Lib.hid (right_no (x := x) 2 (by omega) (okA_high h))
        go_wp2
        all_goals (go_ret; exact ⟨by rw [hr.out]; rfl, HW.out⟩)
      · have hr := Lib.hid (right_no (x := x) 2 (by omega) (by show okA 2 x.d2 = false; have := (show x.d2 = 3 by omega); simp [okA, this]))
        have g3 : (x.d2 == 3) = true := by simp; omega
        go_wp2
        all_goals (go_ret; exact ⟨by rw [hr.out]; rfl, HW.out⟩)
      · have HU := Lib.hid (ok_upto HJ.out (by show okA 2 x.d2 = true; simp [okA]; omega))
        have g3 : (x.d2 == 3) = false := by simp; omega
        go_wp2
        all_goals (go_round; (case rel => exact ⟨3, by omega, by go_num, HU.out⟩); (case measure => simp [intOf]))
    · have hix := ix3 x.d0 x.d1 x.d2 x.d3
      rcases (show x.d3 < 1 ∨ 3 < x.d3 ∨ (3 ≤ x.d3 ∧ x.d3 ≤ 3) ∨ (1 ≤ x.d3 ∧ x.d3 < 3) by omega) with h | h | ⟨h, h2⟩ | ⟨h, h'⟩
      · have hr := Lib.hid (right_no (x := x) 3 (by omega) (okA_low h))
        go_wp2
        all_goals (go_ret; exact ⟨by rw [hr.out]; rfl, HW.out⟩)
      · have hr := Lib.hid (right_no (x := x) 3 (by omega) (okA_high h))
        go_wp2
        all_goals (go_ret; exact ⟨by rw [hr.out]; rfl, HW.out⟩)
      · have hr := Lib.hid (right_no (x := x) 3 (by omega) (by show okA 3 x.d3 = false; have := (show x.d3 = 3 by omega); simp [okA, this]))
        have g3 : (x.d3 == 3) = true := by simp; omega
        go_wp2
        all_goals (go_ret; exact ⟨by rw [hr.out]; rfl, HW.out⟩)
      · have HU := Lib.hid (ok_upto HJ.out (by show okA 3 x.d3 = true; simp [okA]; omega))
        have g3 : (x.d3 == 3) = false := by simp; omega
        go_wp2
        all_goals (go_round; (case rel => exact ⟨4, by omega, by go_num, HU.out⟩); (case measure => simp [intOf]))
    · have hr : rightB x = !x.src.toList.isEmpty := by
        have h0 := HJ.out 0 (by omega)
        have h1 := HJ.out 1 (by omega)
        have h2 := HJ.out 2 (by omega)
        have h3 := HJ.out 3 (by omega)
        simp only [ST.act] at h0 h1 h2 h3
        simp [rightB, h0, h1, h2, h3]
      have HR := Lib.hid hr
      clear hr
      go_wp2
      go_ret
      exact ⟨by rw [HR.out]; rfl, HW.out⟩
set_option maxRecDepth 100000 in
theorem closure_calls (x : ST) (W : World) : Calls Try.prog 41 #[stV x] W fun e w' => e = .returned (.bool (!rightB x)) ∧ Below W.heap.size W w' := by
  go_enter Try.func41, Try.ntmps41
  go_wp2_with (first | (go_at_call 42; refine (right_calls x _).mono ?_; rintro e w2 ⟨rfl, hb⟩; have HB := Lib.hid hb; clear hb) | go_in)
  go_ret
  exact ⟨rfl, lb.below_then (lb.below_alloc _ _) HB.out⟩
/-- At which place of a row an outcome stands. -/
def idx (c : Int) : Nat := if c = 3 then 3 else if c = 1 then 1 else if c = 0 then 0 else 2
theorem idx_lt (c : Int) : idx c < 4 := by unfold idx; (split <;> (try split) <;> (try split) <;> omega)
set_option maxRecDepth 100000 in
theorem index_calls (c : Int) (W : World) : Calls Try.prog 43 #[.int .i64 c] W fun e w' => e = .returned (.int .i64 (idx c : Int)) ∧ w' = W := by
  rcases (show c = 3 ∨ c = 1 ∨ c = 0 ∨ (c ≠ 3 ∧ c ≠ 1 ∧ c ≠ 0) by omega) with rfl | rfl | rfl | ⟨h1, h2, h3⟩
  · go_enter Try.func43, Try.ntmps43
    go_wp2
    go_ret
    exact ⟨rfl, rfl⟩
  · go_enter Try.func43, Try.ntmps43
    go_wp2
    go_ret
    exact ⟨rfl, rfl⟩
  · go_enter Try.func43, Try.ntmps43
    go_wp2
    go_ret
    exact ⟨rfl, rfl⟩
  · have hr : idx c = 2 := by simp [idx, h1, h2, h3]
    have HR := Lib.hid hr
    have g1 : (c == 3) = false := by simp; omega
    have g2 : (c == 1) = false := by simp; omega
    have g3 : (c == 0) = false := by simp; omega
    clear hr h1 h2 h3
    go_enter Try.func43, Try.ntmps43
    go_wp2
    go_ret
    exact ⟨by rw [HR.out]; rfl, rfl⟩
set_option maxRecDepth 100000 in
theorem action_calls (x : ST) (c : Int) (W : World) : Calls Try.prog 19 #[stV x, .int .i64 c] W fun e w' => e = .returned (.int .i64 (x.act (idx c))) ∧ Below W.heap.size W w' := by
  have HW := Lib.hid (lb.below_alloc W (.cells #[.string x.src, .int .i64 x.d0, .int .i64 x.d1, .int .i64 x.d2, .int .i64 x.d3] 37))
  rcases (show c = 3 ∨ c = 1 ∨ c = 0 ∨ (c ≠ 3 ∧ c ≠ 1 ∧ c ≠ 0) by omega) with rfl | rfl | rfl | ⟨h1, h2, h3⟩
  · go_enter Try.func19, Try.ntmps19
    go_wp2
    go_ret
    exact ⟨rfl, HW.out⟩
  · go_enter Try.func19, Try.ntmps19
    go_wp2
    go_ret
    exact ⟨rfl, HW.out⟩
  · go_enter Try.func19, Try.ntmps19
    go_wp2
    go_ret
    exact ⟨rfl, HW.out⟩
  · have hr : idx c = 2 := by simp [idx, h1, h2, h3]
    have HR := Lib.hid hr
    have g1 : (c == 3) = false := by simp; omega
    have g2 : (c == 1) = false := by simp; omega
    have g3 : (c == 0) = false := by simp; omega
    clear hr h1 h2 h3
    go_enter Try.func19, Try.ntmps19
    go_wp2
    go_ret
    exact ⟨by rw [HR.out]; rfl, HW.out⟩
/-- A text's first bytes. -/
def cutS (s : ByteArray) (n : Nat) : ByteArray := if n < s.size then s.extract 0 n else s
theorem cutS_size (s : ByteArray) (n : Nat) : (cutS s n).size ≤ n := by
  unfold cutS
  split
  · simp; omega
  · omega
set_option maxRecDepth 100000 in
theorem cut_calls (s : ByteArray) (n : Nat) (W : World) (hn : n ≤ 9223372036854775807) (hb : s.size ≤ 9223372036854775807) :
    Calls Try.prog 34 #[.string s, .int .i64 (n : Int)] W fun e w' => e = .returned (.string (cutS s n)) ∧ w' = W := by
  by_cases h : n < s.size
  · have HR : Hid (cutS s n = s.extract 0 n) := Lib.hid (by unfold cutS; rw [if_pos h])
    go_enter Try.func34, Try.ntmps34
    go_wp2
    go_ret
    exact ⟨by rw [HR.out]; rfl, rfl⟩
  · have HR : Hid (cutS s n = s) := Lib.hid (by unfold cutS; rw [if_neg h])
    go_enter Try.func34, Try.ntmps34
    go_wp2
    go_ret
    exact ⟨by rw [HR.out]; rfl, rfl⟩
end Go.Proofs.Ytgfkgoiaoglhnaa.ac
