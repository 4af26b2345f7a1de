/- The check sum of journal, whatever the bytes: what the function gives is the document's CRC-32 of these bytes. -/
import Derived.Test.YtemmgompegkgkaaGreatDoorProg
import Derived.Test.YtemmgompegkgkaaGreatDoorVG
import Derived.WalkKit
import Derived.ProofKit
import Derived.Lib.Hide
import Derived.Laws.BitsAllLaws
namespace Go.Proofs.YtemmgompegkgkaaGreatDoor.top
open Go Go.RowKit Vai
set_option linter.unusedVariables false
set_option linter.unusedSimpArgs false
noncomputable def crcIt : Nat → Nat → Nat
  | 0, x => x
  | n + 1, x => crcStep (crcIt n x)
theorem crcIt_lt {x : Nat} (h : x < 2 ^ 32) : ∀ n, crcIt n x < 2 ^ 32
  | 0 => h
  | n + 1 => crcStep_lt (crcIt_lt h n)
theorem crcL_snoc (c : UInt8) : ∀ (l : List UInt8) (x : Nat), crcL (l ++ [c]) x = crcByte (crcL l x) c.toNat
  | [], x => rfl
  | b :: l, x => by
    show crcL (l ++ [c]) (crcByte x b.toNat) = crcByte (crcL l (crcByte x b.toNat)) c.toNat
    exact crcL_snoc c l _
theorem step_bits (Y : Nat) (h : Y < 4294967296) : bits .xor .u32 ((Y : Int) / 2) (bits .and .u32 3988292384 (-bits .and .u32 (Y : Int) 1 % 4294967296)) = ((crcStep Y : Nat) : Int) := by
  have e1 : bits .and .u32 (Y : Int) 1 = ((Y % 2 : Nat) : Int) := by
    rw [show (1 : Int) = ((1 : Nat) : Int) from rfl, u32_and_nat _ _ (by omega) (by omega), Nat.and_one_is_mod]
  have hs : crcStep Y = (Y / 2) ^^^ (3988292384 * (Y % 2)) := by
    unfold crcStep
    show (Y >>> 1) ^^^ (3988292384 * (Y &&& 1)) = _
    rw [Nat.and_one_is_mod, Nat.shiftRight_eq_div_pow]
  have e2 : ((Y : Int) / 2) = ((Y / 2 : Nat) : Int) := by omega
  rw [e1, hs, e2]
  rcases Nat.mod_two_eq_zero_or_one Y with h0 | h0
  · rw [h0]
    have e3 : bits .and .u32 3988292384 (-((0 : Nat) : Int) % 4294967296) = ((0 : Nat) : Int) := by
      have := u32_and_nat 3988292384 0 (by omega) (by omega)
      simpa using this
    rw [e3, u32_xor_nat _ _ (by omega) (by omega)]
  · rw [h0]
    have e3 : bits .and .u32 3988292384 (-((1 : Nat) : Int) % 4294967296) = ((3988292384 : Nat) : Int) := by
      have := u32_and_nat 3988292384 4294967295 (by omega) (by omega)
      rw [show (3988292384 &&& 4294967295 : Nat) = 3988292384 by decide] at this
      exact this
    rw [e3, u32_xor_nat _ _ (by omega) (by omega)]
theorem take_next (bs : List UInt8) (k : Nat) (h : k < bs.length) : crcL (bs.take (k + 1)) 4294967295 = crcByte (crcL (bs.take k) 4294967295) (bs.getD k 0).toNat := by
  rw [List.take_succ_eq_append_getElem h, crcL_snoc]
  simp [List.getD, h]
set_option maxHeartbeats 400000 in
theorem sum_calls (b o n c : Nat) (bs : List UInt8) (W : World) (hlen : bs.length = n) (hc : ∀ k, k < n → W.cell? ⟨b, o + k, none⟩ = some (.int .u8 ((bs.getD k 0).toNat : Int))) (hn : n ≤ 1099511627776) :
    Calls Tryz.prog 175 #[.slice (some ⟨b, o, none⟩) n c] W fun e w' => e = .returned (.int .u32 (.ofNat (crcR bs))) ∧ w' = W := by
  have HC := Lib.hid hc
  have HL := Lib.hid hlen
  clear hc hlen
  go_enter Tryz.func175, Tryz.ntmps175
  go_wp2
  go_loop [3, 8] (fun x i => ∃ k : Nat, k ≤ n ∧ i = .int .i64 k ∧ x = .int .u32 ((crcL (bs.take k) 4294967295 : Nat) : Int)) (fun _ i => n - (intOf i).toNat)
  case atStart => exact ⟨0, Nat.zero_le _, rfl, rfl⟩
  case round =>
    obtain ⟨k, hk, rfl, rfl⟩ := hrel
    by_cases hlt : k < n
    · have g := HC.out k hlt
      have hnx := take_next bs k (by rw [HL.out]; exact hlt)
      obtain ⟨cb, hcb⟩ : ∃ cb, bs.getD k 0 = cb := ⟨_, rfl⟩
      rw [hcb] at g hnx
      obtain ⟨X, hX⟩ : ∃ X, crcL (bs.take k) 4294967295 = X := ⟨_, rfl⟩
      rw [hX] at hnx
      have hXl : X < 4294967296 := by rw [← hX]; exact crcL_lt _ (by decide)
      have hcl : cb.toNat < 256 := cb.toNat_lt
      have hx0 : bits .xor .u32 (X : Int) (cb.toNat : Int) = ((Nat.xor X cb.toNat : Nat) : Int) := by
        rw [u32_xor_nat _ _ (by omega) (by omega)]; rfl
      have HX0 := Lib.hid hx0
      have HN := Lib.hid hnx
      simp only [hX]
      clear hX hcb hx0 hnx
      go_wp2
      go_loop [3, 16] (fun x j => ∃ m : Nat, m ≤ 8 ∧ j = .int .i64 m ∧ x = .int .u32 ((crcIt m (Nat.xor X cb.toNat) : Nat) : Int)) (fun _ j => 8 - (intOf j).toNat)
      case atStart => exact ⟨0, by omega, rfl, by rw [HX0.out]; rfl⟩
      case round =>
        obtain ⟨m, hm, rfl, rfl⟩ := hrel
        by_cases hm8 : m < 8
        · obtain ⟨Y, hY⟩ : ∃ Y, crcIt m (Nat.xor X cb.toNat) = Y := ⟨_, rfl⟩
          have hYl : Y < 4294967296 := by rw [← hY]; exact crcIt_lt (Nat.xor_lt_two_pow (show X < 2 ^ 32 from hXl) (show cb.toNat < 2 ^ 32 by omega)) _
          have hY2 : crcIt (m + 1) (Nat.xor X cb.toNat) = crcStep Y := by rw [← hY]; rfl
          have HY2 := Lib.hid hY2
          simp only [hY]
          clear hY hY2
          go_wp2
          go_round
          case rel => exact ⟨m + 1, by omega, by go_num, by rw [HY2.out, ← step_bits Y hYl]⟩
          case measure => simp [intOf]; omega
        · obtain rfl : m = 8 := by omega
          go_wp2
          go_round
          case rel => exact ⟨k + 1, by omega, by go_num, by rw [HN.out]; rfl⟩
          case measure => simp [intOf]; omega
    · obtain rfl : k = n := by omega
      go_wp2
      go_ret
      refine ⟨?_, rfl⟩
      have ht : bs.take k = bs := List.take_of_length_le (by rw [HL.out]; exact Nat.le_refl _)
      have hl := crcL_lt bs (x := 4294967295) (by decide)
      have := u32_xor_nat 4294967295 (crcL bs 4294967295) (by omega) hl
      rw [ht]
      show Ending.returned (.int .u32 (bits .xor .u32 4294967295 ↑(crcL bs 4294967295))) = _
      rw [show (4294967295 : Int) = ((4294967295 : Nat) : Int) from rfl, this, Nat.xor_comm]
      rfl
theorem sum_ok : SumOk Tryz.prog 175 := by
  intro b o n c bs W hlen hcell hn
  refine (sum_calls b o n c bs W hlen (fun k hk => ?_) hn).mono ?_
  · have h : bs[k]? = some (bs.getD k 0) := by simp [List.getD, show k < bs.length by omega]
    exact hcell k _ h
  · rintro e w' ⟨rfl, rfl⟩
    exact ⟨rfl, Below.refl _ _⟩
end Go.Proofs.YtemmgompegkgkaaGreatDoor.top
