/- The walk of EqTexts at equal texts, and of Short. -/
import Derived.Test.YtdbnfaeanngajaaProg
import Derived.WalkKit
import Derived.ProofKit
import Derived.Lib.Hide
import Derived.WalkLawsBesides
import Derived.WalkSpells
import Derived.Deep.RegionWith
import Derived.Deep.QuietTactic
import Derived.BigQuiet
import Derived.Test.YtdbnfaeanngajaaTB
namespace Go.Proofs.Ytdbnfaeanngajaa.tl
open Go Go.RowKit
set_option linter.unusedVariables false
set_option linter.unusedSimpArgs false
/-- These texts lie there. -/
def TextsAt (w : World) (ad : Option Addr) (xs : List (List UInt8)) : Prop := xs = [] ∨ ∃ b o, ad = some ⟨b, o, none⟩ ∧ ∀ j, j < xs.length → w.cell? ⟨b, o + j, none⟩ = some (sV (xs.getD j []))
set_option maxRecDepth 100000 in
set_option maxHeartbeats 4000000 in
theorem eqtexts_same (ad1 ad2 : Option Addr) (c1 c2 : Nat) (xs : List (List UInt8)) (W : World) (hn : xs.length ≤ 9223372036854775807) (h1 : TextsAt W ad1 xs) (h2 : TextsAt W ad2 xs) :
    Calls Try.prog 16 #[.slice ad1 xs.length c1, .slice ad2 xs.length c2] W fun e w' => e = .returned (.bool true) ∧ ∃ q, w' = W.drewN q := by
  rcases h1 with h0 | ⟨b1, o1, rfl, hc1⟩
  · subst h0
    clear h2
    go_enter Try.func16, Try.ntmps16
    go_wp2
    refine wp_loop_rounds 1 ?_
    rw [rounds_succ]
    go_wp2
    go_ret
    exact ⟨rfl, 0, rfl⟩
  rcases h2 with h0 | ⟨b2, o2, rfl, hc2⟩
  · subst h0
    clear hc1
    go_enter Try.func16, Try.ntmps16
    go_wp2
    refine wp_loop_rounds 1 ?_
    rw [rounds_succ]
    go_wp2
    go_ret
    exact ⟨rfl, 0, rfl⟩
  have HC1 := Lib.hid hc1
  have HC2 := Lib.hid hc2
  clear hc1 hc2
  go_enter Try.func16, Try.ntmps16
  go_wp2
  go_loopw [5] (fun iv wr => ∃ k : Nat, k ≤ xs.length ∧ iv = .int .i64 k ∧ ∃ q, wr = W.drewN q) (fun iv _ => xs.length - (intOf iv).toNat)
  case atStart => exact ⟨0, Nat.zero_le _, rfl, 0, rfl⟩
  case round =>
    obtain ⟨k, hk, rfl, q, rfl⟩ := hrel
    by_cases hlt : k < xs.length
    · have e1 : W.cell? ⟨b1, o1 + k, none⟩ = some (sV (xs.getD k [])) := HC1.out k hlt
      have e2 : W.cell? ⟨b2, o2 + k, none⟩ = some (sV (xs.getD k [])) := HC2.out k hlt
      obtain ⟨s, hs⟩ : ∃ s, sV (xs.getD k []) = .string s := ⟨_, rfl⟩
      rw [hs] at e1 e2
      clear hs
      go_wp2
      go_quiet (fail)
      go_wp2
      go_roundw
      case rel => exact ⟨k + 1, by omega, by go_num, _, rfl⟩
      case measure => simp [intOf]; omega
    · obtain rfl : k = xs.length := by omega
      go_wp2
      go_ret
      exact ⟨rfl, q, rfl⟩
/-- Short: a slice's first bytes. -/
theorem short_calls (ad : Option Addr) (n c m : Nat) (W : World) (hn : n ≤ 9223372036854775807) (hm : m ≤ 9223372036854775807) (hcap : n ≤ c) :
    Calls Try.prog 13 #[.slice ad n c, .int .i64 (m : Int)] W fun e w' => e = .returned (.slice ad (min n m) c) ∧ w' = W := by
  by_cases h : m < n
  · rw [Nat.min_eq_right (by omega)]
    go_enter Try.func13, Try.ntmps13
    go_wp2
    go_ret
    exact ⟨rfl, rfl⟩
  · rw [Nat.min_eq_left (by omega)]
    go_enter Try.func13, Try.ntmps13
    go_wp2
    go_ret
    exact ⟨rfl, rfl⟩
end Go.Proofs.Ytdbnfaeanngajaa.tl
