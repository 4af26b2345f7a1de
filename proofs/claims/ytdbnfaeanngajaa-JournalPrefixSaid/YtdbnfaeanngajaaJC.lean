/- Frames: what journal.Frame and the reference make of bytes, for all bytes: the same. -/
import Derived.Test.YtdbnfaeanngajaaProg
import Derived.WalkKit
import Derived.ProofKit
import Derived.Lib.Hide
import Derived.WalkLawsBesides
import Derived.WalkSpells
import Derived.Deep.RegionWith
import Derived.Test.YtdbnfaeanngajaaJB
namespace Go.Proofs.Ytdbnfaeanngajaa.jr
open Go Go.RowKit
set_option linter.unusedVariables false
set_option linter.unusedSimpArgs false
def frameL (l : List UInt8) : List UInt8 := if 8192 < l.length then [] else leB l.length 4 ++ leB (crcR l) 4 ++ l
theorem frame_big {l : List UInt8} (h : 8192 < l.length) : frameL l = [] := if_pos h
theorem frame_fit {l : List UInt8} (h : l.length ≤ 8192) : frameL l = leB l.length 4 ++ leB (crcR l) 4 ++ l := if_neg (by omega)
theorem frame_len {l : List UInt8} (h : l.length ≤ 8192) : (frameL l).length = 8 + l.length := by
  rw [frame_fit h]; simp [leB_len]; omega
set_option maxRecDepth 100000 in
set_option maxHeartbeats 4000000 in
theorem frame_calls (ad : Option Addr) (c : Nat) (l : List UInt8) (W : World) (h : lb.SB W ad l c) (hn : l.length ≤ 1000000) :
    Calls Try.prog 43 #[.slice ad l.length c] W fun e w' => ∃ v, e = .returned v ∧ w'.ownsRow W.heap.size 5 1 v (frameL l).length (lb.vB (frameL l)) ∧ Below W.heap.size W w' := by
  obtain ⟨i0, hi, hz0, hz1, hz2⟩ := info_parts info_u8
  have HS := Lib.hid h
  clear h
  by_cases hb : 8192 < l.length
  · rw [frame_big hb]
    go_enter Try.func43, Try.ntmps43
    go_wp2
    go_ret
    exact ⟨_, rfl, lb.own_nil _ _ _ _, Below.refl _ _⟩
  · have hle : l.length ≤ 8192 := by omega
    have hcr := crcR_lt l
    have HP1 := Lib.hid (put_calls (.slice none 0 0) [] l.length 4 0 W W (by omega) (by omega) rfl (by omega) (Below.refl _ _) (lb.own_nil _ _ _ _))
    have hfl := frame_len hle
    have HFL := Lib.hid hfl
    have HFF := Lib.hid (frame_fit hle)
    clear hfl
    go_enter Try.func43, Try.ntmps43
    go_wp2_with (first
      | (go_at_call 66; refine HP1.out.mono ?_; rintro e w1 ⟨v1, rfl, ho1, hb1, _⟩; have HO1 := Lib.hid ho1; have HB1 := Lib.hid hb1; clear ho1 hb1 HP1)
      | (go_at_call 67; refine (sum_calls ad c l _ (HS.out.below HB1.out) (by omega)).mono ?_; rintro e w2 ⟨rfl, rfl⟩)
      | (go_at_call 66; refine (put_calls v1 ([] ++ leB l.length 4) (crcR l) 4 (0 + 4) w1 W (by omega) (by omega) (by simp [leB_len]) (by omega) HB1.out HO1.out).mono ?_; rintro e w3 ⟨v3, rfl, ho3, hb3, _⟩; obtain ⟨ad3, cp3, rfl⟩ := lb.own_shape ho3; have ho3' := ho3; have hb3' := hb3)
      | (at_builtin; refine lb.catB rfl (.tmp 13) (.tmp 14) 22 rfl 5 i0 Try.underlying22 hi hz0 hz1 hz2 W w3 _ (0 + 4 + 4) ([] ++ leB l.length 4 ++ leB (crcR l) 4) l ad l.length c rfl (by simp [leB_len]) ho3 hb3 rfl rfl (HS.out.below hb3) (by omega) ?_; intro v4 w4 ho4 hb4 hk4; have HO4 := Lib.hid ho4; have HB4 := Lib.hid hb4; clear ho4 hb4 hk4 ho3 hb3 ho3' hb3')
      | go_in)
    go_ret
    refine ⟨_, rfl, ?_, HB4.out⟩
    have := HO4.out
    rw [HFF.out]
    exact own_cast this (by simp) (by simp [leB_len]; omega)
set_option maxRecDepth 100000 in
set_option maxHeartbeats 4000000 in
theorem four_calls (x : Nat) (W : World) (hx : x < 4294967296) :
    Calls Try.prog 68 #[.int .u32 (x : Int)] W fun e w' => ∃ v, e = .returned v ∧ w'.ownsRow W.heap.size 5 1 v 4 (lb.vB (leB x 4)) ∧ Below W.heap.size W w' := by
  go_enter Try.func68, Try.ntmps68
  go_wp2
  go_ret
  refine ⟨_, rfl, own_cast (lb.own_made W 5 4 _ rfl (by decide)) ?_ rfl, lb.below_alloc _ _⟩
  simp only [leB, byteAt, List.nil_append, List.cons_append, lb.vB, List.map_cons, List.map_nil]
  refine List.cons_eq_cons.2 ⟨?_, List.cons_eq_cons.2 ⟨?_, List.cons_eq_cons.2 ⟨?_, List.cons_eq_cons.2 ⟨?_, rfl⟩⟩⟩⟩ <;> congr 1 <;> simp <;> omega
set_option maxRecDepth 100000 in
set_option maxHeartbeats 4000000 in
theorem rframe_calls (ad : Option Addr) (c : Nat) (l : List UInt8) (W : World) (h : lb.SB W ad l c) (hn : l.length ≤ 1000000) :
    Calls Try.prog 44 #[.slice ad l.length c] W fun e w' => ∃ v, e = .returned v ∧ w'.ownsRow W.heap.size 5 1 v (frameL l).length (lb.vB (frameL l)) ∧ Below W.heap.size W w' := by
  obtain ⟨i0, hi, hz0, hz1, hz2⟩ := info_parts info_u8
  have HS := Lib.hid h
  clear h
  by_cases hb : 8192 < l.length
  · rw [frame_big hb]
    go_enter Try.func44, Try.ntmps44
    go_wp2
    go_ret
    exact ⟨_, rfl, lb.own_nil _ _ _ _, Below.refl _ _⟩
  · have hle : l.length ≤ 8192 := by omega
    have hcr := crcR_lt l
    have HFL := Lib.hid (frame_len hle)
    have HFF := Lib.hid (frame_fit hle)
    go_enter Try.func44, Try.ntmps44
    go_wp2_with (first
      | (go_at_call 68; ((with_reducible refine (four_calls l.length W (by omega)).mono ?_); rintro e w1 ⟨v1, rfl, ho1, hb1⟩); obtain ⟨ad1, cp1, rfl⟩ := lb.own_shape ho1; have HO1 := Lib.hid ho1; have HB1 := Lib.hid hb1; clear ho1 hb1)
      | (go_at_call 69; refine (rsum_calls ad c l _ (HS.out.below HB1.out) (by omega)).mono ?_; rintro e w2 ⟨rfl, rfl⟩)
      | (go_at_call 68; refine (four_calls (crcR l) w1 (by omega)).mono ?_; rintro e w3 ⟨v3, rfl, ho3, hb3⟩; have ho3' := ho3; rw [← leB_len (crcR l) 4] at ho3'; obtain ⟨ad3, cp3, rfl, hs3⟩ := lb.own_bytes ho3'; rw [leB_len]; have HS3 := Lib.hid hs3; have HB3 := Lib.hid (lb.below_then HB1.out hb3); have HO13 := Lib.hid (lb.own_later HO1.out hb3); clear ho3 ho3' hs3 hb3)
      | (at_builtin; refine lb.catB rfl (.tmp 10) (.tmp 13) 22 rfl 5 i0 Try.underlying22 hi hz0 hz1 hz2 W w3 _ 4 (leB l.length 4) (leB (crcR l) 4) ad3 4 cp3 rfl (leB_len _ _) HO13.out HB3.out rfl (leB_len _ _) HS3.out (by omega) ?_; intro v4 w4 ho4 hb4 hk4; obtain ⟨ad4, cp4, rfl⟩ := lb.own_shape ho4; have HO4 := Lib.hid ho4; have HB4 := Lib.hid hb4; clear ho4 hb4 hk4)
      | (at_builtin; refine lb.catB rfl (.tmp 15) (.tmp 16) 22 rfl 5 i0 Try.underlying22 hi hz0 hz1 hz2 W w4 _ (4 + 4) (leB l.length 4 ++ leB (crcR l) 4) l ad l.length c rfl (by simp [leB_len]) HO4.out HB4.out rfl rfl (HS.out.below HB4.out) (by omega) ?_; intro v5 w5 ho5 hb5 hk5; have HO5 := Lib.hid ho5; have HB5 := Lib.hid hb5; clear ho5 hb5 hk5)
      | go_in)
    go_ret
    refine ⟨_, rfl, ?_, HB5.out⟩
    rw [HFF.out]
    exact own_cast HO5.out rfl (by simp [leB_len]; omega)
end Go.Proofs.Ytdbnfaeanngajaa.jr
