/- Action: Compile makes the table of the steps. -/
import Derived.Test.YtgfkgoiaoglhnaaProg
import Derived.WalkKit
import Derived.ProofKit
import Derived.Lib.Hide
import Derived.WalkLawsBesides
import Derived.WalkSpells
import Derived.Deep.RegionWith
import Derived.Deep.QuietTactic
import Derived.BigQuiet
import Derived.RegionTactic
import Derived.ChangeAlike
import Derived.Deep.RegionHeld3
import Derived.StillTailTactics
import Derived.Deep.DeepCutAuto
import Derived.Deep.CutBlock
import Derived.Deep.RegionLaw
import Derived.Test.YtgfkgoiaoglhnaaAD
namespace Go.Proofs.Ytgfkgoiaoglhnaa.ac
open Go Go.RowKit
set_option linter.unusedVariables false
set_option linter.unusedSimpArgs false
set_option maxRecDepth 100000 in
set_option maxHeartbeats 4000000 in
theorem indexfunc_calls (W : World) (B n : Nat) (v : Value) (S : List ST) (hn : S.length = n) (h : W.ownsRow B 37 5 v n (S.flatMap stCells)) :
    Calls Try.prog 69 #[v, .func (.func 41) #[] #[]] W fun e w' => ∃ r : Int, e = .returned (.int .i64 r) ∧ (S.all rightB = true → r = -1) ∧ (S.all rightB = false → 0 ≤ r) ∧ Below W.heap.size W w' := by
  have hm := lb.own_max h
  obtain ⟨ad, c, rfl⟩ := lb.own_shape h
  have HN := Lib.hid hn
  have HO0 := Lib.hid h
  clear hn h
  go_enter Try.func69, Try.ntmps69
  go_wp2
  go_loopw [8] (fun iv wr => ∃ k : Nat, k ≤ n ∧ iv = .int .i64 k ∧ S.all rightB = (S.drop k).all rightB ∧ Below W.heap.size W wr) (fun iv _ => n - (intOf iv).toNat)
  case atStart => exact ⟨0, by omega, rfl, rfl, Below.refl _ _⟩
  case round =>
    obtain ⟨k, hk, rfl, hd, hb⟩ := hrel
    have HD := Lib.hid hd
    have HB := Lib.hid hb
    clear hd hb
    rcases (show k < n ∨ k = n by omega) with hlt | rfl
    · have hkS : k < S.length := by rw [HN.out]; exact hlt
      have HO := Lib.hid (lb.own_later HO0.out HB.out)
      obtain ⟨g, c', hg⟩ := steps_addr HO.out (by omega)
      cases hg
      have e := fun j hj v => cell_is (v := v) (steps_at HO.out HN.out k hlt j hj)
      have e0 := e 0 (by omega) _ rfl
      have e1 := e 1 (by omega) _ rfl
      have e2 := e 2 (by omega) _ rfl
      have e3 := e 3 (by omega) _ rfl
      have e4 := e 4 (by omega) _ rfl
      have hal := all_drop S rightB k hkS
      obtain ⟨x, hx⟩ : ∃ x, S[k] = x := ⟨_, rfl⟩
      simp only [hx, Nat.add_zero] at e0 e1 e2 e3 e4 hal
      have HAL := Lib.hid hal
      clear hal e hx
      cases hr : rightB x
      · have HF := Lib.hid (HD.out.trans (by rw [HAL.out, hr, Bool.false_and]))
        have HC := Lib.hid (fun w => closure_calls x w)
        rw [hr] at HC
        go_wp2_with (first | (go_at_call 41; refine (HC.out _).mono ?_; rintro e w2 ⟨rfl, hb⟩; have HB2 := Lib.hid hb; clear hb) | fail)
        go_ret
        exact ⟨_, rfl, fun h => (by rw [HF.out] at h; cases h), fun _ => by omega, lb.below_then HB.out HB2.out⟩
      · have HF := Lib.hid (HD.out.trans (by rw [HAL.out, hr, Bool.true_and]))
        have HC := Lib.hid (fun w => closure_calls x w)
        rw [hr] at HC
        go_wp2_with (first | (go_at_call 41; refine (HC.out _).mono ?_; rintro e w2 ⟨rfl, hb⟩; have HB2 := Lib.hid hb; clear hb) | fail)
        go_roundw
        case rel => exact ⟨k + 1, by omega, by go_num, HF.out, lb.below_then HB.out HB2.out⟩
        case measure => simp [intOf]; omega
    · have hr : S.all rightB = true := by rw [HD.out, List.drop_eq_nil_of_le (by rw [HN.out]; exact Nat.le_refl _)]; rfl
      have HR2 := Lib.hid hr
      clear hr
      go_wp2
      go_ret
      exact ⟨_, rfl, fun _ => rfl, fun h => (by rw [HR2.out] at h; cases h), HB.out⟩
set_option maxRecDepth 100000 in
theorem contains_calls (W : World) (B n : Nat) (v : Value) (S : List ST) (hn : S.length = n) (h : W.ownsRow B 37 5 v n (S.flatMap stCells)) :
    Calls Try.prog 40 #[v, .func (.func 41) #[] #[]] W fun e w' => e = .returned (.bool (!S.all rightB)) ∧ Below W.heap.size W w' := by
  have HC := Lib.hid (indexfunc_calls W B n v S hn h)
  cases hr : S.all rightB
  · have HR := Lib.hid hr
    clear h hr
    go_enter Try.func40, Try.ntmps40
    go_wp2_with (first | (go_at_call 69; refine HC.out.mono ?_; rintro e w2 ⟨r, rfl, _, h2, hb⟩; have hr0 := h2 HR.out; have HB2 := Lib.hid hb; clear hb h2) | fail)
    go_ret
    exact ⟨by simp [hr0], HB2.out⟩
  · have HR := Lib.hid hr
    clear h hr
    go_enter Try.func40, Try.ntmps40
    go_wp2_with (first | (go_at_call 69; refine HC.out.mono ?_; rintro e w2 ⟨r, rfl, h1, _, hb⟩; have hr0 := h1 HR.out; subst hr0; have HB2 := Lib.hid hb; clear hb h1) | fail)
    go_ret
    exact ⟨rfl, HB2.out⟩
set_option maxRecDepth 100000 in
theorem info_row : (Try.prog.info? 80).map (fun i => (i.zero, i.size, i.bytes)) = some (some (.agg #[.string ⟨#[]⟩, .int .i64 0, .int .i64 0, .int .i64 0, .int .i64 0, .int .i64 0, .int .i64 0, .int .i64 0, .int .i64 0]), 9, 80) := by kernel_rfl
theorem mayB_right (S : List ST) (h : 1 ≤ S.length ∧ S.length ≤ 8) : mayB S = S.all rightB := by
  unfold mayB
  rw [decide_eq_true h, Bool.true_and]
  congr 1
  funext x
  exact okStep_right x
/-- The row's last part behind so many rounds. -/
def nxR (q : Nat) (m0 m1 m2 m3 x0 x1 x2 x3 : Int) : Prop := (0 < q → m0 = x0) ∧ (1 < q → m1 = x1) ∧ (2 < q → m2 = x2) ∧ (3 < q → m3 = x3) ∧ (q ≤ 0 → m0 = 0) ∧ (q ≤ 1 → m1 = 0) ∧ (q ≤ 2 → m2 = 0) ∧ (q ≤ 3 → m3 = 0)
set_option maxRecDepth 100000 in
set_option maxHeartbeats 4000000 in
theorem compile_calls (W : World) (B n : Nat) (v : Value) (S : List ST) (hn : S.length = n) (h : W.ownsRow B 37 5 v n (S.flatMap stCells)) :
    Calls Try.prog 12 #[v] W fun e w' => ((mayB S = false ∧ e = .returned (.tuple #[.pointer none, .iface 32 (.int .i64 5)])) ∨ (mayB S = true ∧ ∃ tb, e = .returned (.tuple #[.pointer (some ⟨tb, 0, none⟩), .nilIface]) ∧ TableAt w' W.heap.size tb S)) ∧ Below W.heap.size W w' := by
  have hm := lb.own_max h
  obtain ⟨ad, c, rfl⟩ := lb.own_shape h
  have HN := Lib.hid hn
  have HO0 := Lib.hid h
  clear hn h
  obtain ⟨i0, hi, hz0, hz1, hz2⟩ := info_parts info_row
  rcases (show n = 0 ∨ 8 < n ∨ (1 ≤ n ∧ n ≤ 8) by omega) with h0 | h0 | ⟨h0, h8⟩
  · have hr : mayB S = false := by simp [mayB, HN.out]; omega
    have HR := Lib.hid hr
    clear hr
    go_enter Try.func12, Try.ntmps12
    go_wp2
    go_ret2
    exact ⟨.inl ⟨HR.out, rfl⟩, Below.refl _ _⟩
  · have hr : mayB S = false := by simp [mayB, HN.out]; omega
    have HR := Lib.hid hr
    clear hr
    go_enter Try.func12, Try.ntmps12
    go_wp2
    go_ret2
    exact ⟨.inl ⟨HR.out, rfl⟩, Below.refl _ _⟩
  have HC := Lib.hid (contains_calls W B n (.slice ad n c) S HN.out HO0.out)
  have hmay := mayB_right S (by rw [HN.out]; omega)
  cases hr : S.all rightB
  · rw [hr] at hmay HC
    have HR := Lib.hid hmay
    clear hmay hr
    go_enter Try.func12, Try.ntmps12
    go_wp2_with (first | (go_at_call 40; refine HC.out.mono ?_; rintro e w2 ⟨rfl, hb⟩; have HB2 := Lib.hid hb; clear hb) | fail)
    go_ret2
    exact ⟨.inl ⟨HR.out, rfl⟩, HB2.out⟩
  · rw [hr] at hmay HC
    simp only [Bool.not_true] at HC
    have HR := Lib.hid hmay
    clear hmay hr
    obtain ⟨g, c', hg⟩ := steps_addr HO0.out h0
    cases hg
    have q1 : ((n : Int) == 0) = false := by simp; omega
    have q2 : decide ((8 : Int) < (n : Int)) = false := by simp; omega
    go_enter Try.func12, Try.ntmps12
    go_wp2_with (first | (go_at_call 40; refine HC.out.mono ?_; rintro e w2 ⟨rfl, hb⟩; have HB2 := Lib.hid hb; clear hb) | fail)
    go_loopw [27] (fun iv wr => ∃ (k : Nat) (v : Value), k ≤ n ∧ iv = .int .i64 k ∧ wr.heap[w2.heap.size]? = some (.cells #[v] 78 (0, 0)) ∧ wr.ownsRow W.heap.size 80 9 v k (rowsC n 0 (S.take k)) ∧ Below W.heap.size W wr) (fun iv _ => n - (intOf iv).toNat)
    case atStart => exact ⟨0, .slice none 0 0, by omega, rfl, (by show (w2.heap.push _)[w2.heap.size]? = _; simp), by simpa [rowsC] using World.ownsRow_nil _ _ _ _, HB2.out.alloc HB2.out.size _⟩
    case round =>
      obtain ⟨k, v, hk, rfl, htb, hown, hb⟩ := hrel
      obtain ⟨al, cl, rfl⟩ := lb.own_shape hown
      have HT := Lib.hid htb
      have HO := Lib.hid hown
      have HB := Lib.hid hb
      have hsz := HB2.out.size
      obtain ⟨tb, htbe⟩ : ∃ tb, tb = w2.heap.size := ⟨_, rfl⟩
      rw [← htbe] at HT hsz ⊢
      have HTB := Lib.hid htbe
      have htlt : tb < wr.heap.size := (Array.getElem?_eq_some_iff.1 HT.out).1
      have htlt1 : tb < wr.heap.size + 1 := by omega
      have htlt2 : tb < wr.heap.size + 2 := by omega
      have hct : wr.cell? ⟨tb, 0, none⟩ = some (.slice al k cl) := by simp [World.cell?, HT.out]
      clear htb hown hb htbe
      rcases (show k < n ∨ k = n by omega) with hlt | rfl
      · have hkS : k < S.length := by rw [HN.out]; exact hlt
        have HOS := Lib.hid (lb.own_later HO0.out HB.out)
        have e := fun j hj v => cell_is (v := v) (steps_at HOS.out HN.out k hlt j hj)
        have e0 := e 0 (by omega) _ rfl
        have e1 := e 1 (by omega) _ rfl
        have e2 := e 2 (by omega) _ rfl
        have e3 := e 3 (by omega) _ rfl
        have e4 := e 4 (by omega) _ rfl
        have hsn : rowsC n 0 (S.take (k + 1)) = rowsC n 0 (S.take k) ++ rowCells n k S[k] := by
          rw [List.take_succ_eq_append_getElem hkS, rowsC_snoc, Nat.zero_add, List.length_take, Nat.min_eq_left (by omega)]
        obtain ⟨⟨s, a0, a1, a2, a3⟩, hx⟩ : ∃ x, S[k] = x := ⟨_, rfl⟩
        simp only [hx, Nat.add_zero] at e0 e1 e2 e3 e4
        rw [hx] at hsn
        have HSN := Lib.hid hsn
        have hgl : g < wr.heap.size := World.block_lt_of_cell? wr _ e0
        clear hsn hx e
        go_wp2
        obtain ⟨wy, hwy⟩ : ∃ wy, wy = wr := ⟨_, rfl⟩
        subst hwy
        go_loopw [39] (fun iv wi => ∃ (q : Nat) (m0 m1 m2 m3 : Int), q ≤ 4 ∧ iv = .int .i64 q ∧ wi = (wy.alloc (.cells #[.string s, .int .i64 a0, .int .i64 a1, .int .i64 a2, .int .i64 a3] 37)).alloc (.cells #[.string s, .int .i64 a0, .int .i64 a1, .int .i64 a2, .int .i64 a3, .int .i64 m0, .int .i64 m1, .int .i64 m2, .int .i64 m3] 80) ∧ nxR q m0 m1 m2 m3 (nxt n k a0) (nxt n k a1) (nxt n k a2) (nxt n k a3)) (fun iv _ => 4 - (intOf iv).toNat)
        case atStart => exact ⟨0, 0, 0, 0, 0, by omega, rfl, rfl, by unfold nxR; omega⟩
        case round =>
          obtain ⟨q, m0, m1, m2, m3, hq, rfl, rfl, hm⟩ := hrel
          have HM := Lib.hid hm
          clear hm
          rcases (show q = 0 ∨ q = 1 ∨ q = 2 ∨ q = 3 ∨ q = 4 by omega) with rfl | rfl | rfl | rfl | rfl
          · have hix := ix0 a0 a1 a2 a3
            rcases (show a0 = 1 ∨ (a0 ≠ 1 ∧ ¬ k + 1 < n) ∨ (a0 ≠ 1 ∧ k + 1 < n) by omega) with h | ⟨h, h'⟩ | ⟨h, h'⟩
            · have hn0 : nxt n k a0 = 0 := by unfold nxt; rw [if_neg (by omega)]
              have HU : Hid (nxR 1 m0 m1 m2 m3 (nxt n k a0) (nxt n k a1) (nxt n k a2) (nxt n k a3)) := Lib.hid (by have := HM.out; unfold nxR at this ⊢; omega)
              have g1 : (a0 != 1) = false := by simp [h]
              clear h hn0
              go_wp2
              all_goals (refine ⟨⟨1, m0, m1, m2, m3, by omega, by go_num, rfl, HU.out⟩, by simp [intOf]⟩)
            · have hn0 : nxt n k a0 = 0 := by unfold nxt; rw [if_neg (by omega)]
              have HU : Hid (nxR 1 m0 m1 m2 m3 (nxt n k a0) (nxt n k a1) (nxt n k a2) (nxt n k a3)) := Lib.hid (by have := HM.out; unfold nxR at this ⊢; omega)
              have g1 : (a0 != 1) = true := by simp [h]
              clear h hn0
              go_wp2
              all_goals (refine ⟨⟨1, m0, m1, m2, m3, by omega, by go_num, rfl, HU.out⟩, by simp [intOf]⟩)
            · have hn0 : nxt n k a0 = (k : Int) + 1 := by unfold nxt; rw [if_pos (by omega)]
              have HU : Hid (nxR 1 ((k : Int) + 1) m1 m2 m3 (nxt n k a0) (nxt n k a1) (nxt n k a2) (nxt n k a3)) := Lib.hid (by have := HM.out; unfold nxR at this ⊢; omega)
              have g1 : (a0 != 1) = true := by simp [h]
              clear h hn0
              go_wp2
              all_goals (refine ⟨⟨1, ((k : Int) + 1), m1, m2, m3, by omega, by go_num, rfl, HU.out⟩, by simp [intOf]⟩)
          · have hix := ix1 a0 a1 a2 a3
            rcases (show a1 = 1 ∨ (a1 ≠ 1 ∧ ¬ k + 1 < n) ∨ (a1 ≠ 1 ∧ k + 1 < n) by omega) with h | ⟨h, h'⟩ | ⟨h, h'⟩
            · have hn0 : nxt n k a1 = 0 := by unfold nxt; rw [if_neg (by omega)]
              have HU : Hid (nxR 2 m0 m1 m2 m3 (nxt n k a0) (nxt n k a1) (nxt n k a2) (nxt n k a3)) := Lib.hid (by have := HM.out; unfold nxR at this ⊢; omega)
              have g1 : (a1 != 1) = false := by simp [h]
              clear h hn0
              go_wp2
              all_goals (refine ⟨⟨2, m0, m1, m2, m3, by omega, by go_num, rfl, HU.out⟩, by simp [intOf]⟩)
            · have hn0 : nxt n k a1 = 0 := by unfold nxt; rw [if_neg (by omega)]
              have HU : Hid (nxR 2 m0 m1 m2 m3 (nxt n k a0) (nxt n k a1) (nxt n k a2) (nxt n k a3)) := Lib.hid (by have := HM.out; unfold nxR at this ⊢; omega)
              have g1 : (a1 != 1) = true := by simp [h]
              clear h hn0
              go_wp2
              all_goals (refine ⟨⟨2, m0, m1, m2, m3, by omega, by go_num, rfl, HU.out⟩, by simp [intOf]⟩)
            · have hn0 : nxt n k a1 = (k : Int) + 1 := by unfold nxt; rw [if_pos (by omega)]
              have HU : Hid (nxR 2 m0 ((k : Int) + 1) m2 m3 (nxt n k a0) (nxt n k a1) (nxt n k a2) (nxt n k a3)) := Lib.hid (by have := HM.out; unfold nxR at this ⊢; omega)
              have g1 : (a1 != 1) = true := by simp [h]
              clear h hn0
              go_wp2
              all_goals (refine ⟨⟨2, m0, ((k : Int) + 1), m2, m3, by omega, by go_num, rfl, HU.out⟩, by simp [intOf]⟩)
          · have hix := ix2 a0 a1 a2 a3
            rcases (show a2 = 1 ∨ (a2 ≠ 1 ∧ ¬ k + 1 < n) ∨ (a2 ≠ 1 ∧ k + 1 < n) by omega) with h | ⟨h, h'⟩ | ⟨h, h'⟩
            · have hn0 : nxt n k a2 = 0 := by unfold nxt; rw [if_neg (by omega)]
              have HU : Hid (nxR 3 m0 m1 m2 m3 (nxt n k a0) (nxt n k a1) (nxt n k a2) (nxt n k a3)) := Lib.hid (by have := HM.out; unfold nxR at this ⊢; omega)
              have g1 : (a2 != 1) = false := by simp [h]
              clear h hn0
              go_wp2
              all_goals (refine ⟨⟨3, m0, m1, m2, m3, by omega, by go_num, rfl, HU.out⟩, by simp [intOf]⟩)
            · have hn0 : nxt n k a2 = 0 := by unfold nxt; rw [if_neg (by omega)]
              have HU : Hid (nxR 3 m0 m1 m2 m3 (nxt n k a0) (nxt n k a1) (nxt n k a2) (nxt n k a3)) := Lib.hid (by have := HM.out; unfold nxR at this ⊢; omega)
              have g1 : (a2 != 1) = true := by simp [h]
              clear h hn0
              go_wp2
              all_goals (refine ⟨⟨3, m0, m1, m2, m3, by omega, by go_num, rfl, HU.out⟩, by simp [intOf]⟩)
            · have hn0 : nxt n k a2 = (k : Int) + 1 := by unfold nxt; rw [if_pos (by omega)]
              have HU : Hid (nxR 3 m0 m1 ((k : Int) + 1) m3 (nxt n k a0) (nxt n k a1) (nxt n k a2) (nxt n k a3)) := Lib.hid (by have := HM.out; unfold nxR at this ⊢; omega)
              have g1 : (a2 != 1) = true := by simp [h]
              clear h hn0
              go_wp2
              all_goals (refine ⟨⟨3, m0, m1, ((k : Int) + 1), m3, by omega, by go_num, rfl, HU.out⟩, by simp [intOf]⟩)
          · have hix := ix3 a0 a1 a2 a3
            rcases (show a3 = 1 ∨ (a3 ≠ 1 ∧ ¬ k + 1 < n) ∨ (a3 ≠ 1 ∧ k + 1 < n) by omega) with h | ⟨h, h'⟩ | ⟨h, h'⟩
            · have hn0 : nxt n k a3 = 0 := by unfold nxt; rw [if_neg (by omega)]
              have HU : Hid (nxR 4 m0 m1 m2 m3 (nxt n k a0) (nxt n k a1) (nxt n k a2) (nxt n k a3)) := Lib.hid (by have := HM.out; unfold nxR at this ⊢; omega)
              have g1 : (a3 != 1) = false := by simp [h]
              clear h hn0
              go_wp2
              all_goals (refine ⟨⟨4, m0, m1, m2, m3, by omega, by go_num, rfl, HU.out⟩, by simp [intOf]⟩)
            · have hn0 : nxt n k a3 = 0 := by unfold nxt; rw [if_neg (by omega)]
              have HU : Hid (nxR 4 m0 m1 m2 m3 (nxt n k a0) (nxt n k a1) (nxt n k a2) (nxt n k a3)) := Lib.hid (by have := HM.out; unfold nxR at this ⊢; omega)
              have g1 : (a3 != 1) = true := by simp [h]
              clear h hn0
              go_wp2
              all_goals (refine ⟨⟨4, m0, m1, m2, m3, by omega, by go_num, rfl, HU.out⟩, by simp [intOf]⟩)
            · have hn0 : nxt n k a3 = (k : Int) + 1 := by unfold nxt; rw [if_pos (by omega)]
              have HU : Hid (nxR 4 m0 m1 m2 ((k : Int) + 1) (nxt n k a0) (nxt n k a1) (nxt n k a2) (nxt n k a3)) := Lib.hid (by have := HM.out; unfold nxR at this ⊢; omega)
              have g1 : (a3 != 1) = true := by simp [h]
              clear h hn0
              go_wp2
              all_goals (refine ⟨⟨4, m0, m1, m2, ((k : Int) + 1), by omega, by go_num, rfl, HU.out⟩, by simp [intOf]⟩)
          · have hm4 : m0 = nxt n k a0 ∧ m1 = nxt n k a1 ∧ m2 = nxt n k a2 ∧ m3 = nxt n k a3 := by have := HM.out; unfold nxR at this; omega
            have HM4 := Lib.hid hm4
            clear hm4
            go_wp2
            go_region_law (refine lb.sapp (wy.heap.size + 2) rfl (.tmp 62) (.tmp 64) 76 rfl 80 i0 (.agg #[.string ⟨#[]⟩, .int .i64 0, .int .i64 0, .int .i64 0, .int .i64 0, .int .i64 0, .int .i64 0, .int .i64 0, .int .i64 0]) 9 80 Try.underlying76 hi hz0 hz1 hz2 rfl (by decide) W _ (.slice al k cl) k (rowsC n 0 (S.take k)) [.string s, .int .i64 a0, .int .i64 a1, .int .i64 a2, .int .i64 a3, .int .i64 m0, .int .i64 m1, .int .i64 m2, .int .i64 m3] (by simp [Act.eval, Act.put]) (by first | exact (((HO.out.alloc _).alloc _).alloc _).drew | exact (((HO.out.alloc _).alloc _).drew.alloc _)) (by first | exact (((HB.out.alloc HB.out.size _).alloc (HB.out.alloc HB.out.size _).size _).alloc ((HB.out.alloc HB.out.size _).alloc (HB.out.alloc HB.out.size _).size _).size _).drew) (by simp [Act.eval, Act.put]) rfl (fun j u hj => (lb.cell_new _ _ _ _ _ j (lb.size_alloc2 _ _ _)).trans ((List.getElem?_toArray ..).trans hj)) (by intro u hu; simp at hu; rcases hu with rfl | rfl | rfl | rfl | rfl | rfl | rfl | rfl | rfl <;> rfl) (by omega) (by omega) ?_; intro v' w' hown' hb' hkb; obtain ⟨a', cp', rfl⟩ := lb.own_shape hown'; have hT' := lb.blk_kept (lb.blk_alloc (lb.blk_alloc (lb.blk_alloc HT.out))) (by decide) hkb; have c' : w'.cell? ⟨tb, 0, none⟩ = some (.slice al k cl) := (by simp [World.cell?, hT']); have f' : w'.frozen? ⟨tb, 0, none⟩ = false := (by simp [World.frozen?, hT']); have HT' := Lib.hid hT'; have HO' := Lib.hid hown'; have HB' := Lib.hid hb'; clear hT' hown' hb' hkb)
            all_goals
              go_wp2
              refine ⟨⟨k + 1, _, by omega, by go_num, lb.blk_set0 HT'.out, ?_, HB'.out.setCell hsz _⟩, by simp [intOf]; omega⟩
              have hfin := lb.own_set (x := .slice a' (k + 1) cp') HO'.out HT'.out (by decide) 0
              obtain ⟨q0, q1, q2, q3⟩ := HM4.out
              rw [HSN.out]
              unfold rowCells
              simp only [← q0, ← q1, ← q2, ← q3]
              exact hfin
      · go_wp2
        go_ret2
        have ht : S.take k = S := List.take_of_length_le (by rw [HN.out]; exact Nat.le_refl _)
        refine ⟨.inr ⟨HR.out, tb, rfl, _, by rw [HTB.out]; exact HB2.out.size, HT.out, ?_⟩, HB.out⟩
        have := HO.out
        rw [ht] at this
        rw [HN.out]
        exact this
end Go.Proofs.Ytgfkgoiaoglhnaa.ac
