/- Numbers to bytes and back, the lowest byte first: put, get, four. -/
import Derived.Test.YtgfkgoiaoglhnaaProg
import Derived.WalkKit
import Derived.ProofKit
import Derived.Lib.Hide
import Derived.WalkLawsBesides
import Derived.WalkSpells
import Derived.Deep.RegionWith
import Derived.Laws.BitsAllLaws
import Derived.Test.YtgfkgoiaoglhnaaJA
namespace Go.Proofs.Ytgfkgoiaoglhnaa.jr
open Go Go.RowKit
set_option linter.unusedVariables false
set_option linter.unusedSimpArgs false
theorem info_u8 : (Try.prog.info? 5).map (fun i => (i.zero, i.size, i.bytes)) = some (some (.int .u8 0), 1, 1) := by kernel_rfl
/-- The byte of a number at a place. -/
def byteAt (n i : Nat) : UInt8 := UInt8.ofNat (n / 256 ^ i)
def leB (n : Nat) : Nat → List UInt8
  | 0 => []
  | k + 1 => leB n k ++ [byteAt n k]
theorem leB_len (n : Nat) : ∀ k, (leB n k).length = k
  | 0 => rfl
  | k + 1 => by rw [leB, List.length_append, leB_len n k]; rfl
theorem put_eq (l : List UInt8) (x j d : Nat) (e : Int) (hd : 256 ^ j = d) (he : e = ((x / d % 256 : Nat) : Int)) : lb.vB (l ++ leB x j) ++ [.int .u8 e] = lb.vB (l ++ leB x (j + 1)) := by
  rw [leB, ← List.append_assoc, lb.vB_app]
  congr 1
  subst hd
  simp [lb.vB, byteAt, he]
theorem own_cast {w : World} {B e s n m : Nat} {v : Value} {xs ys : List Value} (h : w.ownsRow B e s v n xs) (hx : xs = ys) (hn : n = m) : w.ownsRow B e s v m ys := by subst hx; subst hn; exact h
set_option maxRecDepth 100000 in
set_option maxHeartbeats 4000000 in
theorem put_calls (v : Value) (l : List UInt8) (x : Nat) (k m : Nat) (W W0 : World) (hx : x < 18446744073709551616) (hk : k ≤ 8) (hm : l.length = m) (hl : m ≤ 1000000) (hb : Below W0.heap.size W0 W) (hown : W.ownsRow W0.heap.size 5 1 v m (lb.vB l)) :
    Calls Try.prog 53 #[v, .int .u64 x, .int .i64 (k : Int)] W fun e w' => ∃ v', e = .returned v' ∧ w'.ownsRow W0.heap.size 5 1 v' (m + k) (lb.vB (l ++ leB x k)) ∧ Below W0.heap.size W0 w' ∧ lb.KeptBut 5 W w' := by
  obtain ⟨i0, hi, hz0, hz1, hz2⟩ := info_parts info_u8
  have HOW := Lib.hid hown
  have HB0 := Lib.hid hb
  have HM := Lib.hid hm
  clear hown hb hm
  go_enter Try.func53, Try.ntmps53
  go_wp2
  go_loopw [0, 9] (fun vv iv wr => ∃ j : Nat, j ≤ k ∧ iv = .int .i64 j ∧ wr.ownsRow W0.heap.size 5 1 vv (m + j) (lb.vB (l ++ leB x j)) ∧ Below W0.heap.size W0 wr ∧ lb.KeptBut 5 W wr) (fun _ iv _ => k - (intOf iv).toNat)
  case atStart => exact ⟨0, Nat.zero_le _, rfl, by simpa [leB] using HOW.out, HB0.out, lb.KeptBut.refl _ _⟩
  case round =>
    obtain ⟨j, hj, rfl, ho, hb, hg⟩ := hrel
    by_cases hlt : j < k
    · obtain ⟨ad, cp, rfl⟩ := lb.own_shape ho
      have HO := Lib.hid ho
      have HB := Lib.hid hb
      have HG := Lib.hid hg
      clear ho hb hg
      rcases (show j = 0 ∨ j = 1 ∨ j = 2 ∨ j = 3 ∨ j = 4 ∨ j = 5 ∨ j = 6 ∨ j = 7 by omega) with rfl | rfl | rfl | rfl | rfl | rfl | rfl | rfl
      · have hown := HO.out
        have hbw := HB.out
        go_wp2_with (first
          | (at_builtin; refine lb.app1 rfl (.tmp 12) (.tmp 18) 51 rfl 5 i0 (.int .u8 0) 1 1 Try.underlying51 hi hz0 hz1 hz2 rfl (by decide) W0 wr _ (m + 0) _ [_] rfl hown hbw rfl rfl (by intro u hu; simp at hu; subst hu; rfl) (by omega) (by omega) ?_; intro v1 w1 ho1 hb1 hg1; have HO1 := Lib.hid ho1; have HB1 := Lib.hid hb1; have HG1 := Lib.hid hg1; clear ho1 hb1 hg1 hown hbw)
          | go_in)
        go_roundw
        case rel => exact ⟨0 + 1, by omega, by go_num, own_cast HO1.out (put_eq l x 0 1 _ (by decide) (by omega)) (by omega), HB1.out, HG.out.trans HG1.out⟩
        case measure => simp [intOf]; omega
      · have hown := HO.out
        have hbw := HB.out
        go_wp2_with (first
          | (at_builtin; refine lb.app1 rfl (.tmp 12) (.tmp 18) 51 rfl 5 i0 (.int .u8 0) 1 1 Try.underlying51 hi hz0 hz1 hz2 rfl (by decide) W0 wr _ (m + 1) _ [_] rfl hown hbw rfl rfl (by intro u hu; simp at hu; subst hu; rfl) (by omega) (by omega) ?_; intro v1 w1 ho1 hb1 hg1; have HO1 := Lib.hid ho1; have HB1 := Lib.hid hb1; have HG1 := Lib.hid hg1; clear ho1 hb1 hg1 hown hbw)
          | go_in)
        go_roundw
        case rel => exact ⟨1 + 1, by omega, by go_num, own_cast HO1.out (put_eq l x 1 256 _ (by decide) (by omega)) (by omega), HB1.out, HG.out.trans HG1.out⟩
        case measure => simp [intOf]; omega
      · have hown := HO.out
        have hbw := HB.out
        go_wp2_with (first
          | (at_builtin; refine lb.app1 rfl (.tmp 12) (.tmp 18) 51 rfl 5 i0 (.int .u8 0) 1 1 Try.underlying51 hi hz0 hz1 hz2 rfl (by decide) W0 wr _ (m + 2) _ [_] rfl hown hbw rfl rfl (by intro u hu; simp at hu; subst hu; rfl) (by omega) (by omega) ?_; intro v1 w1 ho1 hb1 hg1; have HO1 := Lib.hid ho1; have HB1 := Lib.hid hb1; have HG1 := Lib.hid hg1; clear ho1 hb1 hg1 hown hbw)
          | go_in)
        go_roundw
        case rel => exact ⟨2 + 1, by omega, by go_num, own_cast HO1.out (put_eq l x 2 65536 _ (by decide) (by omega)) (by omega), HB1.out, HG.out.trans HG1.out⟩
        case measure => simp [intOf]; omega
      · have hown := HO.out
        have hbw := HB.out
        go_wp2_with (first
          | (at_builtin; refine lb.app1 rfl (.tmp 12) (.tmp 18) 51 rfl 5 i0 (.int .u8 0) 1 1 Try.underlying51 hi hz0 hz1 hz2 rfl (by decide) W0 wr _ (m + 3) _ [_] rfl hown hbw rfl rfl (by intro u hu; simp at hu; subst hu; rfl) (by omega) (by omega) ?_; intro v1 w1 ho1 hb1 hg1; have HO1 := Lib.hid ho1; have HB1 := Lib.hid hb1; have HG1 := Lib.hid hg1; clear ho1 hb1 hg1 hown hbw)
          | go_in)
        go_roundw
        case rel => exact ⟨3 + 1, by omega, by go_num, own_cast HO1.out (put_eq l x 3 16777216 _ (by decide) (by omega)) (by omega), HB1.out, HG.out.trans HG1.out⟩
        case measure => simp [intOf]; omega
      · have hown := HO.out
        have hbw := HB.out
        go_wp2_with (first
          | (at_builtin; refine lb.app1 rfl (.tmp 12) (.tmp 18) 51 rfl 5 i0 (.int .u8 0) 1 1 Try.underlying51 hi hz0 hz1 hz2 rfl (by decide) W0 wr _ (m + 4) _ [_] rfl hown hbw rfl rfl (by intro u hu; simp at hu; subst hu; rfl) (by omega) (by omega) ?_; intro v1 w1 ho1 hb1 hg1; have HO1 := Lib.hid ho1; have HB1 := Lib.hid hb1; have HG1 := Lib.hid hg1; clear ho1 hb1 hg1 hown hbw)
          | go_in)
        go_roundw
        case rel => exact ⟨4 + 1, by omega, by go_num, own_cast HO1.out (put_eq l x 4 4294967296 _ (by decide) (by omega)) (by omega), HB1.out, HG.out.trans HG1.out⟩
        case measure => simp [intOf]; omega
      · have hown := HO.out
        have hbw := HB.out
        go_wp2_with (first
          | (at_builtin; refine lb.app1 rfl (.tmp 12) (.tmp 18) 51 rfl 5 i0 (.int .u8 0) 1 1 Try.underlying51 hi hz0 hz1 hz2 rfl (by decide) W0 wr _ (m + 5) _ [_] rfl hown hbw rfl rfl (by intro u hu; simp at hu; subst hu; rfl) (by omega) (by omega) ?_; intro v1 w1 ho1 hb1 hg1; have HO1 := Lib.hid ho1; have HB1 := Lib.hid hb1; have HG1 := Lib.hid hg1; clear ho1 hb1 hg1 hown hbw)
          | go_in)
        go_roundw
        case rel => exact ⟨5 + 1, by omega, by go_num, own_cast HO1.out (put_eq l x 5 1099511627776 _ (by decide) (by omega)) (by omega), HB1.out, HG.out.trans HG1.out⟩
        case measure => simp [intOf]; omega
      · have hown := HO.out
        have hbw := HB.out
        go_wp2_with (first
          | (at_builtin; refine lb.app1 rfl (.tmp 12) (.tmp 18) 51 rfl 5 i0 (.int .u8 0) 1 1 Try.underlying51 hi hz0 hz1 hz2 rfl (by decide) W0 wr _ (m + 6) _ [_] rfl hown hbw rfl rfl (by intro u hu; simp at hu; subst hu; rfl) (by omega) (by omega) ?_; intro v1 w1 ho1 hb1 hg1; have HO1 := Lib.hid ho1; have HB1 := Lib.hid hb1; have HG1 := Lib.hid hg1; clear ho1 hb1 hg1 hown hbw)
          | go_in)
        go_roundw
        case rel => exact ⟨6 + 1, by omega, by go_num, own_cast HO1.out (put_eq l x 6 281474976710656 _ (by decide) (by omega)) (by omega), HB1.out, HG.out.trans HG1.out⟩
        case measure => simp [intOf]; omega
      · have hown := HO.out
        have hbw := HB.out
        go_wp2_with (first
          | (at_builtin; refine lb.app1 rfl (.tmp 12) (.tmp 18) 51 rfl 5 i0 (.int .u8 0) 1 1 Try.underlying51 hi hz0 hz1 hz2 rfl (by decide) W0 wr _ (m + 7) _ [_] rfl hown hbw rfl rfl (by intro u hu; simp at hu; subst hu; rfl) (by omega) (by omega) ?_; intro v1 w1 ho1 hb1 hg1; have HO1 := Lib.hid ho1; have HB1 := Lib.hid hb1; have HG1 := Lib.hid hg1; clear ho1 hb1 hg1 hown hbw)
          | go_in)
        go_roundw
        case rel => exact ⟨7 + 1, by omega, by go_num, own_cast HO1.out (put_eq l x 7 72057594037927936 _ (by decide) (by omega)) (by omega), HB1.out, HG.out.trans HG1.out⟩
        case measure => simp [intOf]; omega
    · obtain rfl : j = k := by omega
      go_wp2
      go_ret
      exact ⟨_, rfl, ho, hb, hg⟩
/-- The number of so many bytes. -/
def leN : List UInt8 → Nat
  | [] => 0
  | c :: l => c.toNat + 256 * leN l
theorem leN_snoc (c : UInt8) : ∀ l : List UInt8, leN (l ++ [c]) = leN l + 256 ^ l.length * c.toNat
  | [] => by simp [leN]
  | d :: l => by
    show d.toNat + 256 * leN (l ++ [c]) = d.toNat + 256 * leN l + 256 ^ (l.length + 1) * c.toNat
    rw [leN_snoc c l, Nat.mul_add, Nat.pow_succ, Nat.mul_comm (256 ^ l.length) 256, Nat.mul_assoc]
    omega
theorem leN_lt : ∀ l : List UInt8, leN l < 256 ^ l.length
  | [] => by simp [leN]
  | c :: l => by
    have := leN_lt l
    have hc := c.toNat_lt
    show c.toNat + 256 * leN l < 256 ^ (l.length + 1)
    rw [Nat.pow_succ]
    omega
theorem leN_take (l : List UInt8) (k : Nat) (h : k < l.length) : leN (l.take (k + 1)) = leN (l.take k) + 256 ^ k * (l.getD k 0).toNat := by
  rw [List.take_succ_eq_append_getElem h, leN_snoc]
  simp [List.getD, h, show min k l.length = k by omega]
theorem or_step (X y i d : Nat) (e : Int) (hd : 2 ^ i = d) (hX : X < d) (hy : y < 256) (hi : d ≤ 72057594037927936) (he : e = ((y * d : Nat) : Int)) : bits .or .u64 (X : Int) e = ((X + d * y : Nat) : Int) := by
  have hyd : y * d < 18446744073709551616 := by
    have : y * d ≤ 255 * d := Nat.mul_le_mul_right _ (by omega)
    omega
  rw [he, u64_or_nat X (y * d) (by omega) hyd]
  congr 1
  subst hd
  rw [Nat.or_comm, Nat.mul_comm y, ← Nat.two_pow_add_eq_or_of_lt hX]
  omega
set_option maxRecDepth 100000 in
set_option maxHeartbeats 4000000 in
theorem get_at (b o c : Nat) (l : List UInt8) (W : World) (hc : ∀ j, j < l.length → W.cell? ⟨b, o + j, none⟩ = some (.int .u8 ((l.getD j 0).toNat : Int))) (hn : l.length ≤ 8) :
    Calls Try.prog 59 #[.slice (some ⟨b, o, none⟩) l.length c] W fun e w' => e = .returned (.int .u64 (leN l : Int)) ∧ W = w' := by
  have HC := Lib.hid hc
  clear hc
  go_enter Try.func59, Try.ntmps59
  go_wp2
  go_loop [3, 8] (fun x i => ∃ k : Nat, k ≤ l.length ∧ i = .int .i64 k ∧ x = .int .u64 (leN (l.take k) : Int)) (fun _ i => l.length - (intOf i).toNat)
  case atStart => exact ⟨0, Nat.zero_le _, rfl, rfl⟩
  case round =>
    obtain ⟨k, hk, rfl, rfl⟩ := hrel
    by_cases hlt : k < l.length
    · have g := HC.out k hlt
      have hnx := leN_take l k hlt
      have hlt2 := leN_lt (l.take k)
      obtain ⟨X, hX⟩ : ∃ X, leN (l.take k) = X := ⟨_, rfl⟩
      obtain ⟨cb, hcb⟩ : ∃ cb, l.getD k 0 = cb := ⟨_, rfl⟩
      rw [hcb] at g hnx
      rw [hX] at hnx hlt2
      rw [show (l.take k).length = k by simp; omega] at hlt2
      simp only [hX]
      have hcl : cb.toNat < 256 := cb.toNat_lt
      have HN := Lib.hid hnx
      have HX := Lib.hid hlt2
      clear hX hcb hnx hlt2
      rcases (show k = 0 ∨ k = 1 ∨ k = 2 ∨ k = 3 ∨ k = 4 ∨ k = 5 ∨ k = 6 ∨ k = 7 by omega) with rfl | rfl | rfl | rfl | rfl | rfl | rfl | rfl
      · simp only [Nat.add_zero] at g
        go_wp2
        refine ⟨⟨0 + 1, by omega, by go_num, congrArg (Value.int .u64) ?_⟩, by simp [intOf]; omega⟩
        rw [HN.out]
        exact or_step X cb.toNat 0 1 _ (by decide) HX.out hcl (by decide) (by simp)
      · go_wp2
        refine ⟨⟨1 + 1, by omega, by go_num, congrArg (Value.int .u64) ?_⟩, by simp [intOf]; omega⟩
        rw [HN.out]
        exact or_step X cb.toNat 8 256 _ (by decide) HX.out hcl (by decide) (by simp)
      · go_wp2
        refine ⟨⟨2 + 1, by omega, by go_num, congrArg (Value.int .u64) ?_⟩, by simp [intOf]; omega⟩
        rw [HN.out]
        exact or_step X cb.toNat 16 65536 _ (by decide) HX.out hcl (by decide) (by simp)
      · go_wp2
        refine ⟨⟨3 + 1, by omega, by go_num, congrArg (Value.int .u64) ?_⟩, by simp [intOf]; omega⟩
        rw [HN.out]
        exact or_step X cb.toNat 24 16777216 _ (by decide) HX.out hcl (by decide) (by simp)
      · go_wp2
        refine ⟨⟨4 + 1, by omega, by go_num, congrArg (Value.int .u64) ?_⟩, by simp [intOf]; omega⟩
        rw [HN.out]
        exact or_step X cb.toNat 32 4294967296 _ (by decide) HX.out hcl (by decide) (by simp)
      · go_wp2
        refine ⟨⟨5 + 1, by omega, by go_num, congrArg (Value.int .u64) ?_⟩, by simp [intOf]; omega⟩
        rw [HN.out]
        exact or_step X cb.toNat 40 1099511627776 _ (by decide) HX.out hcl (by decide) (by simp)
      · go_wp2
        refine ⟨⟨6 + 1, by omega, by go_num, congrArg (Value.int .u64) ?_⟩, by simp [intOf]; omega⟩
        rw [HN.out]
        exact or_step X cb.toNat 48 281474976710656 _ (by decide) HX.out hcl (by decide) (by simp)
      · go_wp2
        refine ⟨⟨7 + 1, by omega, by go_num, congrArg (Value.int .u64) ?_⟩, by simp [intOf]; omega⟩
        rw [HN.out]
        exact or_step X cb.toNat 56 72057594037927936 _ (by decide) HX.out hcl (by decide) (by simp)
    · obtain rfl : k = l.length := by omega
      go_wp2
      go_ret
      exact ⟨by simp, rfl⟩
theorem get_calls (ad : Option Addr) (c : Nat) (l : List UInt8) (W : World) (h : lb.SB W ad l c) (hn : l.length ≤ 8) :
    Calls Try.prog 59 #[.slice ad l.length c] W fun e w' => e = .returned (.int .u64 (leN l : Int)) ∧ W = w' := by
  rcases h.at_ with h0 | ⟨b, o, rfl, hc⟩
  · subst h0
    clear h hn
    go_enter Try.func59, Try.ntmps59
    go_wp2
    refine wp_loop_rounds 1 ?_
    rw [rounds_succ]
    go_wp2
    go_ret
    exact ⟨rfl, rfl⟩
  · exact get_at b o c l W hc hn
theorem get_n (ad : Option Addr) (n c : Nat) (l : List UInt8) (W : World) (h : lb.SB W ad l c) (hl : l.length = n) (hn : n ≤ 8) :
    Calls Try.prog 59 #[.slice ad n c] W fun e w' => e = .returned (.int .u64 (leN l : Int)) ∧ W = w' := by
  subst hl; exact get_calls ad c l W h hn
end Go.Proofs.Ytgfkgoiaoglhnaa.jr
