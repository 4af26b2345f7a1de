/- Frames: what journal.Frame and the reference make of bytes, for all bytes: the same. -/
import Derived.Test.YtgfkgoiaoglhnaaProg
import Derived.WalkKit
import Derived.ProofKit
import Derived.Lib.Hide
import Derived.WalkLawsBesides
import Derived.WalkSpells
import Derived.Deep.RegionWith
import Derived.Test.YtgfkgoiaoglhnaaJB
namespace Go.Proofs.Ytgfkgoiaoglhnaa.jr
open Go Go.RowKit
set_option linter.unusedVariables false
set_option linter.unusedSimpArgs false
def frameL (l : List UInt8) : List UInt8 := if 8192 < l.length then [] else leB l.length 4 ++ leB (crcR l) 4 ++ l
theorem frame_big {l : List UInt8} (h : 8192 < l.length) : frameL l = [] := if_pos h
theorem frame_fit {l : List UInt8} (h : l.length ≤ 8192) : frameL l = leB l.length 4 ++ leB (crcR l) 4 ++ l := if_neg (by omega)
theorem frame_len {l : List UInt8} (h : l.length ≤ 8192) : (frameL l).length = 8 + l.length := by
  rw [frame_fit h]; simp [leB_len]; omega
set_option maxRecDepth 100000 in
set_option maxHeartbeats 4000000 in
theorem frame_calls (ad : Option Addr) (c : Nat) (l : List UInt8) (W : World) (h : lb.SB W ad l c) (hn : l.length ≤ 1000000) :
    Calls Try.prog 31 #[.slice ad l.length c] W fun e w' => ∃ v, e = .returned v ∧ w'.ownsRow W.heap.size 5 1 v (frameL l).length (lb.vB (frameL l)) ∧ Below W.heap.size W w' := by
  obtain ⟨i0, hi, hz0, hz1, hz2⟩ := info_parts info_u8
  have HS := Lib.hid h
  clear h
  by_cases hb : 8192 < l.length
  · rw [frame_big hb]
    go_enter Try.func31, Try.ntmps31
    go_wp2
    go_ret
    exact ⟨_, rfl, lb.own_nil _ _ _ _, Below.refl _ _⟩
  · have hle : l.length ≤ 8192 := by omega
    have hcr := crcR_lt l
    have HP1 := Lib.hid (put_calls (.slice none 0 0) [] l.length 4 0 W W (by omega) (by omega) rfl (by omega) (Below.refl _ _) (lb.own_nil _ _ _ _))
    have hfl := frame_len hle
    have HFL := Lib.hid hfl
    have HFF := Lib.hid (frame_fit hle)
    clear hfl
    go_enter Try.func31, Try.ntmps31
    go_wp2_with (first
      | (go_at_call 53; refine HP1.out.mono ?_; rintro e w1 ⟨v1, rfl, ho1, hb1, _⟩; have HO1 := Lib.hid ho1; have HB1 := Lib.hid hb1; clear ho1 hb1 HP1)
      | (go_at_call 54; refine (sum_calls ad c l _ (HS.out.below HB1.out) (by omega)).mono ?_; rintro e w2 ⟨rfl, rfl⟩)
      | (go_at_call 53; refine (put_calls v1 ([] ++ leB l.length 4) (crcR l) 4 (0 + 4) w1 W (by omega) (by omega) (by simp [leB_len]) (by omega) HB1.out HO1.out).mono ?_; rintro e w3 ⟨v3, rfl, ho3, hb3, _⟩; obtain ⟨ad3, cp3, rfl⟩ := lb.own_shape ho3; have ho3' := ho3; have hb3' := hb3)
      | (at_builtin; refine lb.catB rfl (.tmp 13) (.tmp 14) 51 rfl 5 i0 Try.underlying51 hi hz0 hz1 hz2 W w3 _ (0 + 4 + 4) ([] ++ leB l.length 4 ++ leB (crcR l) 4) l ad l.length c rfl (by simp [leB_len]) ho3 hb3 rfl rfl (HS.out.below hb3) (by omega) ?_; intro v4 w4 ho4 hb4 hk4; have HO4 := Lib.hid ho4; have HB4 := Lib.hid hb4; clear ho4 hb4 hk4 ho3 hb3 ho3' hb3')
      | go_in)
    go_ret
    refine ⟨_, rfl, ?_, HB4.out⟩
    have := HO4.out
    rw [HFF.out]
    exact own_cast this (by simp) (by simp [leB_len]; omega)
end Go.Proofs.Ytgfkgoiaoglhnaa.jr
