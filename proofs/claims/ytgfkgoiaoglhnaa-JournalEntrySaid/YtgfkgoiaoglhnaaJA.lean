/- The two check sums of a journal's record: both are the CRC-32 of the bytes, whatever these are. -/
import Derived.Test.YtgfkgoiaoglhnaaProg
import Derived.WalkKit
import Derived.ProofKit
import Derived.Lib.Hide
import Derived.WalkLawsBesides
import Derived.WalkSpells
import Derived.Deep.RegionWith
import Derived.Laws.BitsAllLaws
import Derived.Test.YtgfkgoiaoglhnaaLB
namespace Go.Proofs.Ytgfkgoiaoglhnaa.jr
open Go Go.RowKit
set_option linter.unusedVariables false
set_option linter.unusedSimpArgs false
def crcStep (x : Nat) : Nat := Nat.xor (Nat.shiftRight x 1) (Nat.mul 3988292384 (Nat.land x 1))
def crcIt : Nat → Nat → Nat
  | 0, x => x
  | n + 1, x => crcStep (crcIt n x)
def crcByte (x c : Nat) : Nat := crcIt 8 (Nat.xor x c)
def crcL : List UInt8 → Nat → Nat
  | [], x => x
  | b :: l, x => crcL l (crcByte x b.toNat)
def crcR (l : List UInt8) : Nat := Nat.xor (crcL l 4294967295) 4294967295
theorem crcStep_eq (x : Nat) : crcStep x = (x / 2) ^^^ (3988292384 * (x % 2)) := by
  unfold crcStep
  show (x >>> 1) ^^^ (3988292384 * (x &&& 1)) = _
  rw [Nat.and_one_is_mod, Nat.shiftRight_eq_div_pow]
theorem crcStep_lt {x : Nat} (h : x < 2 ^ 32) : crcStep x < 2 ^ 32 := by
  rw [crcStep_eq]
  refine Nat.xor_lt_two_pow (by omega) ?_
  rcases Nat.mod_two_eq_zero_or_one x with h0 | h0 <;> rw [h0] <;> decide
theorem crcIt_lt {x : Nat} (h : x < 2 ^ 32) : ∀ n, crcIt n x < 2 ^ 32
  | 0 => h
  | n + 1 => crcStep_lt (crcIt_lt h n)
theorem crcL_lt : ∀ (l : List UInt8) {x : Nat}, x < 2 ^ 32 → crcL l x < 2 ^ 32
  | [], _, h => h
  | b :: l, x, h => crcL_lt l (crcIt_lt (Nat.xor_lt_two_pow h (by have := b.toNat_lt; omega)) 8)
theorem crcR_lt (l : List UInt8) : crcR l < 4294967296 := Nat.xor_lt_two_pow (n := 32) (crcL_lt l (by decide)) (by decide)
theorem crcL_snoc (c : UInt8) : ∀ (l : List UInt8) (x : Nat), crcL (l ++ [c]) x = crcByte (crcL l x) c.toNat
  | [], x => rfl
  | b :: l, x => by
    show crcL (l ++ [c]) (crcByte x b.toNat) = crcByte (crcL l (crcByte x b.toNat)) c.toNat
    exact crcL_snoc c l _
theorem take_next (bs : List UInt8) (k : Nat) (h : k < bs.length) : crcL (bs.take (k + 1)) 4294967295 = crcByte (crcL (bs.take k) 4294967295) (bs.getD k 0).toNat := by
  rw [List.take_succ_eq_append_getElem h, crcL_snoc]
  simp [List.getD, h]
theorem step_bits (Y : Nat) (h : Y < 4294967296) : bits .xor .u32 ((Y : Int) / 2) (bits .and .u32 3988292384 (-bits .and .u32 (Y : Int) 1 % 4294967296)) = ((crcStep Y : Nat) : Int) := by
  have e1 : bits .and .u32 (Y : Int) 1 = ((Y % 2 : Nat) : Int) := by
    rw [show (1 : Int) = ((1 : Nat) : Int) from rfl, u32_and_nat _ _ (by omega) (by omega), Nat.and_one_is_mod]
  have e2 : ((Y : Int) / 2) = ((Y / 2 : Nat) : Int) := by omega
  rw [e1, crcStep_eq, e2]
  rcases Nat.mod_two_eq_zero_or_one Y with h0 | h0
  · rw [h0]
    have e3 : bits .and .u32 3988292384 (-((0 : Nat) : Int) % 4294967296) = ((0 : Nat) : Int) := by
      have := u32_and_nat 3988292384 0 (by omega) (by omega)
      simpa using this
    rw [e3, u32_xor_nat _ _ (by omega) (by omega)]
  · rw [h0]
    have e3 : bits .and .u32 3988292384 (-((1 : Nat) : Int) % 4294967296) = ((3988292384 : Nat) : Int) := by
      have := u32_and_nat 3988292384 4294967295 (by omega) (by omega)
      rw [show (3988292384 &&& 4294967295 : Nat) = 3988292384 by decide] at this
      exact this
    rw [e3, u32_xor_nat _ _ (by omega) (by omega)]
theorem step_odd (Y : Nat) (h : Y < 4294967296) (h1 : Y % 2 = 1) : bits .xor .u32 ((Y : Int) / 2) 3988292384 = ((crcStep Y : Nat) : Int) := by
  have e2 : ((Y : Int) / 2) = ((Y / 2 : Nat) : Int) := by omega
  rw [crcStep_eq, h1, e2, show (3988292384 : Int) = ((3988292384 : Nat) : Int) from rfl, u32_xor_nat _ _ (by omega) (by omega)]
theorem step_even (Y : Nat) (h1 : Y % 2 = 0) : (Y : Int) / 2 = ((crcStep Y : Nat) : Int) := by
  rw [crcStep_eq, h1]
  simp
set_option maxHeartbeats 400000 in
theorem sum_at (b o c : Nat) (bs : List UInt8) (W : World) (hc : ∀ k, k < bs.length → W.cell? ⟨b, o + k, none⟩ = some (.int .u8 ((bs.getD k 0).toNat : Int))) (hn : bs.length ≤ 1099511627776) :
    Calls Try.prog 54 #[.slice (some ⟨b, o, none⟩) bs.length c] W fun e w' => e = .returned (.int .u32 (crcR bs : Int)) ∧ W = w' := by
  have HC := Lib.hid hc
  clear hc
  go_enter Try.func54, Try.ntmps54
  go_wp2
  go_loop [3, 8] (fun x i => ∃ k : Nat, k ≤ bs.length ∧ i = .int .i64 k ∧ x = .int .u32 ((crcL (bs.take k) 4294967295 : Nat) : Int)) (fun _ i => bs.length - (intOf i).toNat)
  case atStart => exact ⟨0, Nat.zero_le _, rfl, rfl⟩
  case round =>
    obtain ⟨k, hk, rfl, rfl⟩ := hrel
    by_cases hlt : k < bs.length
    · have g := HC.out k hlt
      have hnx := take_next bs k hlt
      obtain ⟨cb, hcb⟩ : ∃ cb, bs.getD k 0 = cb := ⟨_, rfl⟩
      rw [hcb] at g hnx
      obtain ⟨X, hX⟩ : ∃ X, crcL (bs.take k) 4294967295 = X := ⟨_, rfl⟩
      rw [hX] at hnx
      have hXl : X < 4294967296 := by rw [← hX]; exact crcL_lt _ (by decide)
      have hcl : cb.toNat < 256 := cb.toNat_lt
      have hx0 : bits .xor .u32 (X : Int) (cb.toNat : Int) = ((Nat.xor X cb.toNat : Nat) : Int) := by
        rw [u32_xor_nat _ _ (by omega) (by omega)]; rfl
      have HX0 := Lib.hid hx0
      have HN := Lib.hid hnx
      simp only [hX]
      clear hX hcb hx0 hnx
      go_wp2
      go_loop [3, 16] (fun x j => ∃ m : Nat, m ≤ 8 ∧ j = .int .i64 m ∧ x = .int .u32 ((crcIt m (Nat.xor X cb.toNat) : Nat) : Int)) (fun _ j => 8 - (intOf j).toNat)
      case atStart => exact ⟨0, by omega, rfl, by rw [HX0.out]; rfl⟩
      case round =>
        obtain ⟨m, hm, rfl, rfl⟩ := hrel
        by_cases hm8 : m < 8
        · obtain ⟨Y, hY⟩ : ∃ Y, crcIt m (Nat.xor X cb.toNat) = Y := ⟨_, rfl⟩
          have hYl : Y < 4294967296 := by rw [← hY]; exact crcIt_lt (Nat.xor_lt_two_pow (show X < 2 ^ 32 from hXl) (show cb.toNat < 2 ^ 32 by omega)) _
          have hY2 : crcIt (m + 1) (Nat.xor X cb.toNat) = crcStep Y := by rw [← hY]; rfl
          have HY2 := Lib.hid hY2
          simp only [hY]
          clear hY hY2
          go_wp2
          go_round
          case rel => exact ⟨m + 1, by omega, by go_num, by rw [HY2.out, ← step_bits Y hYl]⟩
          case measure => simp [intOf]; omega
        · obtain rfl : m = 8 := by omega
          go_wp2
          go_round
          case rel => exact ⟨k + 1, by omega, by go_num, by rw [HN.out]; rfl⟩
          case measure => simp [intOf]; omega
    · obtain rfl : k = bs.length := by omega
      go_wp2
      go_ret
      refine ⟨?_, rfl⟩
      have hl := crcL_lt bs (x := 4294967295) (by decide)
      have := u32_xor_nat 4294967295 (crcL bs 4294967295) (by omega) hl
      show Ending.returned (.int .u32 (bits .xor .u32 4294967295 ↑(crcL bs 4294967295))) = _
      rw [show (4294967295 : Int) = ((4294967295 : Nat) : Int) from rfl, this, Nat.xor_comm]
      rfl
theorem sum_calls (ad : Option Addr) (c : Nat) (bs : List UInt8) (W : World) (h : lb.SB W ad bs c) (hn : bs.length ≤ 1099511627776) :
    Calls Try.prog 54 #[.slice ad bs.length c] W fun e w' => e = .returned (.int .u32 (crcR bs : Int)) ∧ W = w' := by
  rcases h.at_ with h0 | ⟨b, o, rfl, hc⟩
  · subst h0
    clear h hn
    go_enter Try.func54, Try.ntmps54
    go_wp2
    refine wp_loop_rounds 1 ?_
    rw [rounds_succ]
    go_wp2
    go_ret
    exact ⟨rfl, rfl⟩
  · exact sum_at b o c bs W hc hn
theorem sum_n (ad : Option Addr) (n c : Nat) (bs : List UInt8) (W : World) (h : lb.SB W ad bs c) (hl : bs.length = n) (hn : n ≤ 1099511627776) :
    Calls Try.prog 54 #[.slice ad n c] W fun e w' => e = .returned (.int .u32 (crcR bs : Int)) ∧ W = w' := by
  subst hl; exact sum_calls ad c bs W h hn
end Go.Proofs.Ytgfkgoiaoglhnaa.jr
