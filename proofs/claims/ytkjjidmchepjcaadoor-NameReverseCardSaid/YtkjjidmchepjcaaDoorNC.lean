/- Labels, letters, pieces: what the program and the reference make of a text. -/
import Derived.Test.YtkjjidmchepjcaaDoorProg
import Derived.WalkKit
import Derived.ProofKit
import Derived.Lib.Hide
import Derived.WalkLawsBesides
import Derived.WalkSpells
import Derived.Deep.RegionWith
import Derived.Deep.QuietTactic
import Derived.BigQuiet
import Derived.Deep.DeepCutAuto
import Derived.Deep.CutBlock
import Derived.Laws.BitsAllLaws
import Derived.Test.YtkjjidmchepjcaaDoorNA
namespace Go.Proofs.YtkjjidmchepjcaaDoor.nm
open Go Go.RowKit
set_option linter.unusedVariables false
set_option linter.unusedSimpArgs false
theorem empty_no (s : ByteArray) (h : s.size ≠ 0) : s.toList.isEmpty = false := by
  rw [ByteArray.toList_eq]
  have : s.data.toList.length ≠ 0 := h
  cases h : s.data.toList <;> simp_all
theorem empty_yes (s : ByteArray) (h : s.size = 0) : s.toList.isEmpty = true := by
  rw [ByteArray.toList_eq]
  have : s.data.toList.length = 0 := h
  cases h : s.data.toList <;> simp_all
theorem isEmpty_iff (s : ByteArray) : s.data.toList.isEmpty = decide (s.size = 0) := by
  have : s.data.toList.length = s.size := rfl
  rw [Bool.eq_iff_iff, List.isEmpty_iff, decide_eq_true_eq, ← this, List.length_eq_zero_iff]
theorem at_data (s : ByteArray) (i : Nat) (h : i < s.size) : s[i] = s.data.toList.getD i 0 := by
  obtain ⟨⟨l⟩⟩ := s
  have hl : i < l.length := h
  simp only [List.getD, List.getElem?_eq_getElem hl, Option.getD_some]
  rfl
theorem take_all {p : UInt8 → Bool} {l : List UInt8} {k : Nat} (h : (l.take k).all p = true) (hk : k < l.length) (hc : p (l.getD k 0) = true) : (l.take (k + 1)).all p = true := by
  rw [List.take_succ_eq_append_getElem hk, List.all_append, h]
  have : l.getD k 0 = l[k] := by simp [List.getD, hk]
  rw [this] at hc
  simp [hc]
theorem all_no {p : UInt8 → Bool} {l : List UInt8} {k : Nat} (hk : k < l.length) (hc : p (l.getD k 0) = false) : l.all p = false := by
  have : l.getD k 0 = l[k] := by simp [List.getD, hk]
  rw [this] at hc
  apply Bool.eq_false_iff.2
  intro h
  have := List.all_eq_true.1 h _ (List.getElem_mem hk)
  rw [hc] at this
  cases this
theorem or_val (c : UInt8) : bits .or .u8 ((c.toNat : Nat) : Int) 32 = (((c ||| 32).toNat : Nat) : Int) := by
  have h := u8_or_nat c.toNat 32 c.toNat_lt (by omega)
  rw [show ((32 : Nat) : Int) = 32 from rfl] at h
  rw [h, UInt8.toNat_or]
  rfl
set_option maxHeartbeats 8000000 in
theorem label_calls (s : ByteArray) (W : World) (hb : s.size ≤ 9223372036854775807) :
    Calls Tryd.prog 76 #[.string s] W fun e w' => e = .returned (.bool (labelB s.data.toList)) ∧ w' = W := by
  obtain ⟨r, hr⟩ : ∃ r, labelB s.data.toList = r := ⟨_, rfl⟩
  rw [hr]
  have hlen : s.data.toList.length = s.size := rfl
  have HR := Lib.hid hr
  have HLEN := Lib.hid hlen
  clear hr hlen
  go_enter Tryd.func76, Tryd.ntmps76
  go_wp2
  go_loop [7] (fun i => ∃ k : Nat, k ≤ s.size ∧ i = .int .i64 k ∧ (s.data.toList.take k).all labC = true) (fun i => s.size - (intOf i).toNat)
  case atStart => exact ⟨0, Nat.zero_le _, rfl, rfl⟩
  case round =>
    obtain ⟨k, hk, rfl, hall⟩ := hrel
    have HALL := Lib.hid hall
    clear hall
    by_cases hlt : k < s.size
    · obtain ⟨c, hc⟩ : ∃ c, s.data.toList.getD k 0 = c := ⟨_, rfl⟩
      have hat : s[k] = c := by rw [at_data, hc]
      have hc255 : c.toNat < 256 := c.toNat_lt
      have HC := Lib.hid hc
      have hlab := or32 c
      have hor := or_val c
      generalize (c ||| 32).toNat = y at hlab hor
      clear hc
      by_cases hl : labC c = true
      · have HN : Hid ((s.data.toList.take (k + 1)).all labC = true) := Lib.hid (take_all HALL.out (by rw [HLEN.out]; exact hlt) (by rw [HC.out]; exact hl))
        rw [hl] at hlab
        have hcase : (97 ≤ y ∧ y ≤ 122) ∨ ((y < 97 ∨ 122 < y) ∧ 48 ≤ c.toNat ∧ c.toNat ≤ 57) ∨ ((y < 97 ∨ 122 < y) ∧ (c.toNat = 45 ∨ c.toNat = 95)) := by
          simp only [Bool.true_eq, Bool.or_eq_true, decide_eq_true_eq] at hlab
          omega
        clear hlab hl
        rcases hcase with ⟨h1, h2⟩ | ⟨h1 | h1, h2, h3⟩ | ⟨h1 | h1, h2 | h2⟩
        all_goals
          have hq1 : (((c.toNat : Nat) : Int) == 45) = decide (c.toNat = 45) := by
            rw [Bool.eq_iff_iff]; simp; omega
          have hq2 : (((c.toNat : Nat) : Int) == 95) = decide (c.toNat = 95) := by
            rw [Bool.eq_iff_iff]; simp; omega
          go_wp2
          go_round
          case rel => exact ⟨k + 1, by omega, by go_num, HN.out⟩
          case measure => simp [intOf]; omega
      · have hrf : r = false := by
          rw [← HR.out]
          unfold labelB
          rw [all_no (by rw [HLEN.out]; exact hlt) (by rw [HC.out]; simpa using hl)]
          rfl
        subst hrf
        have hlf : labC c = false := by simpa using hl
        rw [hlf] at hlab
        have hcase : (y < 97 ∨ 122 < y) ∧ (c.toNat < 48 ∨ 57 < c.toNat) ∧ c.toNat ≠ 45 ∧ c.toNat ≠ 95 := by
          simp only [Bool.false_eq, Bool.or_eq_false_iff, decide_eq_false_iff_not] at hlab
          omega
        clear hlab hl hlf
        obtain ⟨h1 | h1, h2 | h2, h3, h4⟩ := hcase
        all_goals
          have hq1 : (((c.toNat : Nat) : Int) == 45) = false := by
            rw [beq_eq_false_iff_ne]; omega
          have hq2 : (((c.toNat : Nat) : Int) == 95) = false := by
            rw [beq_eq_false_iff_ne]; omega
          have hq3 : (((c.toNat : Nat) : Int) != 45) = true := by
            rw [bne, hq1]; rfl
          have hq4 : (((c.toNat : Nat) : Int) != 95) = true := by
            rw [bne, hq2]; rfl
          go_wp2
          go_ret
          exact ⟨rfl, rfl⟩
    · obtain rfl : k = s.size := by omega
      have hall : s.data.toList.all labC = true := by
        have := HALL.out
        rwa [List.take_of_length_le (by rw [HLEN.out]; exact Nat.le_refl _)] at this
      have hr2 : r = (!s.data.toList.isEmpty && decide (s.size ≤ 63)) := by
        rw [← HR.out]
        unfold labelB
        rw [hall, HLEN.out]
        rfl
      have HR2 := Lib.hid hr2
      clear hr2 hall
      rcases (show s.size = 0 ∨ (0 < s.size ∧ s.size ≤ 63) ∨ 63 < s.size by omega) with h0 | ⟨h0, h1⟩ | h1
      · have e1 := empty_yes s h0
        have HF : Hid (r = false) := Lib.hid (by rw [HR2.out, isEmpty_iff, decide_eq_true h0]; rfl)
        go_wp2
        go_ret
        exact ⟨by rw [HF.out]; rfl, rfl⟩
      · have e1 := empty_no s (by omega)
        have HF : Hid (r = true) := Lib.hid (by rw [HR2.out, isEmpty_iff, decide_eq_false (by omega), decide_eq_true h1]; rfl)
        have hd : decide ((s.size : Int) ≤ 63) = true := decide_eq_true (by omega)
        go_wp2
        go_ret
        exact ⟨by rw [HF.out]; first | rfl | simp_all, rfl⟩
      · have e1 := empty_no s (by omega)
        have HF : Hid (r = false) := Lib.hid (by rw [HR2.out, decide_eq_false (by omega), Bool.and_false])
        have hd : decide ((s.size : Int) ≤ 63) = false := decide_eq_false (by omega)
        go_wp2
        go_ret
        exact ⟨by rw [HF.out]; first | rfl | simp_all, rfl⟩
end Go.Proofs.YtkjjidmchepjcaaDoor.nm
