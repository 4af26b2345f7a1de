/- conciergelaw2.Cut: a text that is not too long. -/
import Derived.Test.YtkjjidmchepjcaaDoorProg
import Derived.WalkKit
import Derived.ProofKit
import Derived.Lib.Hide
import Derived.WalkLawsBesides
import Derived.WalkSpells
import Derived.Deep.RegionWith
import Derived.Deep.DeepCutAuto
import Derived.Test.YtkjjidmchepjcaaDoorLB
namespace Go.Proofs.YtkjjidmchepjcaaDoor.ac
open Go Go.RowKit
set_option linter.unusedVariables false
set_option linter.unusedSimpArgs false
def cutS (s : ByteArray) (n : Nat) : ByteArray := if n < s.size then s.extract 0 n else s
theorem cutS_size (s : ByteArray) (n : Nat) : (cutS s n).size ≤ n := by
  unfold cutS
  split
  · simp; omega
  · omega
set_option maxRecDepth 100000 in
theorem cut_calls (s : ByteArray) (n : Nat) (W : World) (hn : n ≤ 9223372036854775807) (hb : s.size ≤ 9223372036854775807) :
    Calls Tryd.prog 32 #[.string s, .int .i64 (n : Int)] W fun e w' => e = .returned (.string (cutS s n)) ∧ w' = W := by
  by_cases h : n < s.size
  · have HR : Hid (cutS s n = s.extract 0 n) := Lib.hid (by unfold cutS; rw [if_pos h])
    go_enter Tryd.func32, Tryd.ntmps32
    go_wp2
    go_ret
    exact ⟨by rw [HR.out]; rfl, rfl⟩
  · have HR : Hid (cutS s n = s) := Lib.hid (by unfold cutS; rw [if_neg h])
    go_enter Tryd.func32, Tryd.ntmps32
    go_wp2
    go_ret
    exact ⟨by rw [HR.out]; rfl, rfl⟩
end Go.Proofs.YtkjjidmchepjcaaDoor.ac
