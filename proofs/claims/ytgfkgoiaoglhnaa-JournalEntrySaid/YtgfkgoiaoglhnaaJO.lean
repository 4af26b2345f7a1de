/- conciergelaw1.Short. -/
import Derived.Test.YtgfkgoiaoglhnaaProg
import Derived.WalkKit
import Derived.ProofKit
import Derived.Lib.Hide
import Derived.WalkLawsBesides
import Derived.WalkSpells
import Derived.Deep.RegionWith
import Derived.Deep.DeepCutAuto
import Derived.Test.YtgfkgoiaoglhnaaJK
namespace Go.Proofs.Ytgfkgoiaoglhnaa.jr
open Go Go.RowKit
set_option linter.unusedVariables false
set_option linter.unusedSimpArgs false
theorem short_calls (ad : Option Addr) (n c m : Nat) (W : World) (hn : n ≤ 9223372036854775807) (hm : m ≤ 9223372036854775807) (hcap : n ≤ c) :
    Calls Try.prog 39 #[.slice ad n c, .int .i64 (m : Int)] W fun e w' => e = .returned (.slice ad (min n m) c) ∧ W = w' := by
  by_cases h : m < n
  · rw [Nat.min_eq_right (by omega)]
    go_enter Try.func39, Try.ntmps39
    go_wp2
    go_ret
    exact ⟨rfl, rfl⟩
  · rw [Nat.min_eq_left (by omega)]
    go_enter Try.func39, Try.ntmps39
    go_wp2
    go_ret
    exact ⟨rfl, rfl⟩
/-- What Read hands back, where it is a record: an entry whose rows are the call's own. -/
theorem read_own {W : World} {l : List UInt8} {en : Ending} {w' : World} (h : ReadPost W l en w') (hr : readOk l = true) : ∃ v, en = .returned (.tuple #[v, .bool (decide (kindL l = 1)), .nilIface]) ∧ OwnE W w' (readE l) v := by
  rcases h with ⟨h, _⟩ | ⟨_, v1, v2, v3, rfl, h1, h2, h3⟩
  · rw [h] at hr; cases hr
  · exact ⟨_, rfl, v1, v2, v3, rfl, h1, h2, h3⟩
end Go.Proofs.Ytgfkgoiaoglhnaa.jr
