/- Action: what Next tells of a table. -/
import Derived.Test.YtgfkgoiaoglhnaaProg
import Derived.WalkKit
import Derived.ProofKit
import Derived.Lib.Hide
import Derived.WalkLawsBesides
import Derived.WalkSpells
import Derived.Deep.RegionWith
import Derived.Deep.QuietTactic
import Derived.BigQuiet
import Derived.RegionTactic
import Derived.ChangeAlike
import Derived.Deep.RegionHeld3
import Derived.StillTailTactics
import Derived.Deep.DeepCutAuto
import Derived.Deep.CutBlock
import Derived.Test.YtgfkgoiaoglhnaaAB
namespace Go.Proofs.Ytgfkgoiaoglhnaa.ac
open Go Go.RowKit
set_option linter.unusedVariables false
set_option linter.unusedSimpArgs false
/-- What a row tells of an outcome. -/
def nextV (S : List ST) (r c : Int) : Int × Int × Bool := if h : 0 ≤ r ∧ r.toNat < S.length then ((S[r.toNat]'h.2).act (idx c), nxt S.length r.toNat ((S[r.toNat]'h.2).act (idx c)), decide (0 < nxt S.length r.toNat ((S[r.toNat]'h.2).act (idx c)))) else (0, 0, false)
theorem nextV_out {S : List ST} {r c : Int} (h : r < 0 ∨ (S.length : Int) ≤ r) : nextV S r c = (0, 0, false) := by
  unfold nextV
  rw [dif_neg (by omega)]
theorem nextV_in {S : List ST} {k : Nat} {c : Int} (h : k < S.length) : nextV S (k : Int) c = ((S[k]).act (idx c), nxt S.length k ((S[k]).act (idx c)), decide (0 < nxt S.length k ((S[k]).act (idx c)))) := by
  unfold nextV
  rw [dif_pos (by omega)]
  rfl
set_option maxRecDepth 100000 in
set_option maxHeartbeats 4000000 in
theorem next_in (W : World) (B tb g n cp k i : Nat) (S : List ST) (c : Int) (s : ByteArray) (a0 a1 a2 a3 b0 b1 b2 b3 : Int) (hT : TableAt W B tb S) (hN : S.length = n) (hm : (n : Int) ≤ 9223372036854775807) (hk : k < n) (hi : idx c = i)
    (hc : W.cell? ⟨tb, 0, none⟩ = some (.slice (some ⟨g, 0, none⟩) n cp))
    (e0 : W.cell? ⟨g, k * 9, none⟩ = some (.string s)) (e1 : W.cell? ⟨g, k * 9 + 1, none⟩ = some (.int .i64 a0)) (e2 : W.cell? ⟨g, k * 9 + 2, none⟩ = some (.int .i64 a1)) (e3 : W.cell? ⟨g, k * 9 + 3, none⟩ = some (.int .i64 a2)) (e4 : W.cell? ⟨g, k * 9 + 4, none⟩ = some (.int .i64 a3))
    (e5 : W.cell? ⟨g, k * 9 + 5, none⟩ = some (.int .i64 b0)) (e6 : W.cell? ⟨g, k * 9 + 6, none⟩ = some (.int .i64 b1)) (e7 : W.cell? ⟨g, k * 9 + 7, none⟩ = some (.int .i64 b2)) (e8 : W.cell? ⟨g, k * 9 + 8, none⟩ = some (.int .i64 b3)) :
    Calls Try.prog 16 #[.pointer (some ⟨tb, 0, none⟩), .int .i64 (k : Int), .int .i64 c] W fun e w' => e = .returned (.tuple #[.int .i64 (ST.act ⟨s, a0, a1, a2, a3⟩ i), .int .i64 (ST.act ⟨s, b0, b1, b2, b3⟩ i), .bool (decide (0 < ST.act ⟨s, b0, b1, b2, b3⟩ i))]) ∧ Below W.heap.size W w' := by
  have HT := Lib.hid hT
  have HN := Lib.hid hN
  have hi4 : i < 4 := hi ▸ idx_lt c
  have HI := Lib.hid hi
  clear hT hN hi
  have hg : g < W.heap.size := World.block_lt_of_cell? W _ e0
  have htb : tb < W.heap.size := World.block_lt_of_cell? W _ hc
  go_enter Try.func16, Try.ntmps16
  go_upto_region 3 with (first
      | (go_at_call 18; refine (len_calls _ B tb S n HN.out HT.out).mono ?_; rintro e w2 ⟨rfl, hw⟩; obtain rfl := hw)
      | fail)
  go_cut [9, 10] (fun pv iv wx => pv = .pointer (some ⟨w2.heap.size, 0, none⟩) ∧ iv = .int .i64 (i : Int) ∧ wx = (w2.alloc (.cells #[.string s, .int .i64 a0, .int .i64 a1, .int .i64 a2, .int .i64 a3, .int .i64 b0, .int .i64 b1, .int .i64 b2, .int .i64 b3] 80)).drew)
  case first =>
    go_region_with ((go_at_call 43; refine (index_calls c _).mono ?_; rintro e w2 ⟨rfl, hw⟩; subst hw; rw [HI.out]))
    all_goals (go_wp2_with fail; go_meet; exact ⟨rfl, rfl, rfl⟩)
  case rest =>
    obtain ⟨rfl, rfl, rfl⟩ := hcut
    have HB := Lib.hid (lb.below_alloc w2 (.cells #[.string s, .int .i64 a0, .int .i64 a1, .int .i64 a2, .int .i64 a3, .int .i64 b0, .int .i64 b1, .int .i64 b2, .int .i64 b3] 80))
    rcases (show i = 0 ∨ i = 1 ∨ i = 2 ∨ i = 3 by omega) with rfl | rfl | rfl | rfl
    all_goals
      go_wp2_with fail
      go_quiet (fail)
      go_wp2
      go_ret3
      first | exact ⟨rfl, lb.drewN_of HB.out.drew _⟩ | exact ⟨rfl, lb.drewN_of (lb.drewN_of HB.out 1) _⟩ | exact ⟨rfl, lb.drewN_of HB.out _⟩
theorem cell_of {w : World} {a : Addr} {o : Option Value} {v : Value} (h : w.cell? a = o) (hv : o = some v) : w.cell? a = some v := h.trans hv
def rowV (x : Int × Int × Bool) : Value := .tuple #[.int .i64 x.1, .int .i64 x.2.1, .bool x.2.2]
set_option maxRecDepth 100000 in
theorem next_calls (W : World) (B tb : Nat) (S : List ST) (r c : Int) (h : TableAt W B tb S) : Calls Try.prog 16 #[.pointer (some ⟨tb, 0, none⟩), .int .i64 r, .int .i64 c] W fun e w' => e = .returned (.tuple #[.int .i64 (nextV S r c).1, .int .i64 (nextV S r c).2.1, .bool (nextV S r c).2.2]) ∧ Below W.heap.size W w' := by
  have HT := Lib.hid h
  obtain ⟨n, hn⟩ : ∃ n, S.length = n := ⟨_, rfl⟩
  have HN := Lib.hid hn
  have hm : (n : Int) ≤ 9223372036854775807 := by obtain ⟨_, _, _, hm⟩ := HT.out.cell; rw [HN.out] at hm; omega
  rcases (show r < 0 ∨ (n : Int) ≤ r ∨ (0 ≤ r ∧ r < n) by omega) with g | g | ⟨g, g'⟩
  · rw [nextV_out (.inl g)]
    clear h hn
    go_enter Try.func16, Try.ntmps16
    go_wp2
    go_ret3
    exact ⟨rfl, Below.refl _ _⟩
  · rw [nextV_out (.inr (by rw [hn]; exact g))]
    clear h hn
    go_enter Try.func16, Try.ntmps16
    go_wp2_with (first | (go_at_call 18; refine (len_calls _ B tb S n HN.out HT.out).mono ?_; rintro e w2 ⟨rfl, hw⟩; obtain rfl := hw) | fail)
    go_ret3
    exact ⟨rfl, Below.refl _ _⟩
  · obtain ⟨k, rfl⟩ : ∃ k : Nat, r = k := ⟨r.toNat, by omega⟩
    have hk : k < S.length := by rw [hn]; omega
    obtain ⟨q, cp, hc, hr⟩ := h.row k hk
    rw [nextV_in hk]
    have e := fun j hj v => cell_of (v := v) (hr j hj)
    rw [hn] at hc
    have ha : ∀ i, i < 4 → ST.act ⟨(S[k]).src, nxt S.length k (S[k]).d0, nxt S.length k (S[k]).d1, nxt S.length k (S[k]).d2, nxt S.length k (S[k]).d3⟩ i = nxt S.length k ((S[k]).act i) := by
      intro i hi
      rcases (show i = 0 ∨ i = 1 ∨ i = 2 ∨ i = 3 by omega) with rfl | rfl | rfl | rfl <;> rfl
    refine (next_in W B tb q n cp k (idx c) S c (S[k]).src (S[k]).d0 (S[k]).d1 (S[k]).d2 (S[k]).d3 (nxt S.length k (S[k]).d0) (nxt S.length k (S[k]).d1) (nxt S.length k (S[k]).d2) (nxt S.length k (S[k]).d3) h hn hm (by omega) rfl hc
      (e 0 (by omega) _ rfl) (e 1 (by omega) _ rfl) (e 2 (by omega) _ rfl) (e 3 (by omega) _ rfl) (e 4 (by omega) _ rfl) (e 5 (by omega) _ rfl) (e 6 (by omega) _ rfl) (e 7 (by omega) _ rfl) (e 8 (by omega) _ rfl)).mono ?_
    rintro e w' ⟨rfl, hb⟩
    rw [ha _ (idx_lt c)]
    exact ⟨rfl, hb⟩
end Go.Proofs.Ytgfkgoiaoglhnaa.ac
