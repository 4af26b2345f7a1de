/- Entries by arithmetic. -/
import Derived.Test.YtemmgompegkgkaaGreatDoorVG
set_option linter.unusedVariables false
set_option linter.unusedSimpArgs false
namespace Vai
open Go Go.RowKit
variable {P : Program} {G : Sym}

theorem entV_of {c : Nat} (hc : c < 32) {x y v : Value} (h : binV (opOf c) x y = some v) (hv : vEq v v = true) : entV c x y v = true := by
  have h1 : Nat.blt c 32 = true := by rw [natBlt]; simpa using hc
  unfold entV
  rw [h1, cond_true, h]
  exact hv
theorem binV_int {op : BinOp} {k : IntKind} {a b : Int} {v : Value} (h1 : op ≠ .shl) (h2 : op ≠ .shr) (h : aInt op k a b = some (some v)) : binV op (.int k a) (.int k b) = some v := by
  have hk : Nat.beq (kCode k) (kCode k) = true := Nat.beq_refl _
  unfold binV
  cases op <;> simp only <;> first | (exact absurd rfl h1) | (exact absurd rfl h2) | (rw [hk, cond_true, h])
theorem wrapK_nat {k : IntKind} {n : Nat} (h : n ≤ posMax k) : wrapK k (.ofNat n) = .ofNat n := by
  have hm : n < modK k := by cases k <;> simp only [posMax, modK] at * <;> omega
  have hu : umod (modK k) (.ofNat n) = n := Nat.mod_eq_of_lt hm
  unfold wrapK
  rw [hu, natBle, cond_decide, if_pos h]
  cases k.signed <;> rfl
theorem posMax_lt (k : IntKind) : posMax k < modK k := by cases k <;> decide
theorem e_add (k : IntKind) (a b c : Nat) (h : c = a + b) (hk : c ≤ posMax k) : entV 0 (.int k (.ofNat a)) (.int k (.ofNat b)) (.int k (.ofNat c)) = true := by
  refine entV_of (by decide) (binV_int (op := .add) (by simp) (by simp) ?_) (vEq_int _ _)
  simp only [aInt]
  rw [show (Int.ofNat a + Int.ofNat b) = Int.ofNat c by simp only [Int.ofNat_eq_natCast]; omega, wrapK_nat hk]
theorem e_sub (k : IntKind) (a b c : Nat) (h : c + b = a) (hk : c ≤ posMax k) : entV 1 (.int k (.ofNat a)) (.int k (.ofNat b)) (.int k (.ofNat c)) = true := by
  refine entV_of (by decide) (binV_int (op := .sub) (by simp) (by simp) ?_) (vEq_int _ _)
  simp only [aInt]
  rw [show (Int.ofNat a - Int.ofNat b) = Int.ofNat c by simp only [Int.ofNat_eq_natCast]; omega, wrapK_nat hk]
theorem e_mul (k : IntKind) (a b c : Nat) (h : c = a * b) (hk : c ≤ posMax k) : entV 2 (.int k (.ofNat a)) (.int k (.ofNat b)) (.int k (.ofNat c)) = true := by
  refine entV_of (by decide) (binV_int (op := .mul) (by simp) (by simp) ?_) (vEq_int _ _)
  simp only [aInt]
  rw [show (Int.ofNat a * Int.ofNat b) = Int.ofNat c by rw [h]; rfl, wrapK_nat hk]
theorem e_quo (k : IntKind) (a b c : Nat) (h0 : 0 < b) (h : c = a / b) (hk : c ≤ posMax k) : entV 3 (.int k (.ofNat a)) (.int k (.ofNat b)) (.int k (.ofNat c)) = true := by
  refine entV_of (by decide) (binV_int (op := .quo) (by simp) (by simp) ?_) (vEq_int _ _)
  simp only [aInt]
  rw [show ieq (Int.ofNat b) 0 = false by rw [ieq_eq]; simp; omega, cond_false, show (Int.ofNat a).tdiv (Int.ofNat b) = Int.ofNat c by rw [h]; rfl, wrapK_nat hk]
theorem e_rem (k : IntKind) (a b c : Nat) (h0 : 0 < b) (h : c = a % b) : entV 4 (.int k (.ofNat a)) (.int k (.ofNat b)) (.int k (.ofNat c)) = true := by
  refine entV_of (by decide) (binV_int (op := .rem) (by simp) (by simp) ?_) (vEq_int _ _)
  simp only [aInt]
  rw [show ieq (Int.ofNat b) 0 = false by rw [ieq_eq]; simp; omega, cond_false, show (Int.ofNat a).tmod (Int.ofNat b) = Int.ofNat c by rw [h]; rfl]
theorem e_or (k : IntKind) (i a b c : Nat) (h1 : a % 2 ^ i = 0) (h2 : b < 2 ^ i) (h : c = a + b) (hk : c ≤ posMax k) : entV 6 (.int k (.ofNat a)) (.int k (.ofNat b)) (.int k (.ofNat c)) = true := by
  have hp := posMax_lt k
  have hj : a ||| b = a + b := by
    obtain ⟨q, rfl⟩ : ∃ q, a = 2 ^ i * q := ⟨a / 2 ^ i, (Nat.mul_div_cancel' (Nat.dvd_of_mod_eq_zero h1)).symm⟩
    exact (Nat.two_pow_add_eq_or_of_lt h2 q).symm
  have ha : Nat.blt a (modK k) = true := by rw [natBlt]; simp; omega
  have hb : Nat.blt b (modK k) = true := by rw [natBlt]; simp; omega
  refine entV_of (by decide) (binV_int (op := .or) (by simp) (by simp) ?_) (vEq_int _ _)
  simp only [aInt, aBits, ha, hb, Bool.and_self, cond_true, Option.map_some]
  rw [show Nat.lor a b = c by rw [show Nat.lor a b = a ||| b from rfl, hj, h], wrapK_nat hk]
theorem e_shl (k k' : IntKind) (a n c : Nat) (hn : n ≤ k.bits) (h : c = a * 2 ^ n) (hk : c ≤ posMax k) : entV 8 (.int k (.ofNat a)) (.int k' (.ofNat n)) (.int k (.ofNat c)) = true := by
  refine entV_of (by decide) ?_ (vEq_int _ _)
  show (match aShift .shl k (.ofNat a) (.ofNat n) with
    | some r => r
    | none => none) = _
  simp only [aShift]
  have : Nat.ble n k.bits = true := Nat.ble_eq_true_of_le hn
  rw [this, cond_true, show a.shiftLeft n = c by rw [h]; exact Nat.shiftLeft_eq a n, wrapK_nat hk]
theorem e_shr (k k' : IntKind) (a n c : Nat) (hn : n ≤ k.bits) (h : c = a / 2 ^ n) : entV 9 (.int k (.ofNat a)) (.int k' (.ofNat n)) (.int k (.ofNat c)) = true := by
  refine entV_of (by decide) ?_ (vEq_int _ _)
  show (match aShift .shr k (.ofNat a) (.ofNat n) with
    | some r => r
    | none => none) = _
  simp only [aShift]
  have : Nat.ble n k.bits = true := Nat.ble_eq_true_of_le hn
  rw [this, cond_true, show a.shiftRight n = c by rw [h]; exact Nat.shiftRight_eq_div_pow a n]
theorem e_conv (k k' : IntKind) (y : Value) (a c : Nat) (h : c = a) (hk : c ≤ posMax k') : entV (32 + kCode k') (.int k (.ofNat a)) y (.int k' (.ofNat c)) = true := by
  have hl := kCode_lt k'
  have h1 : Nat.blt (32 + kCode k') 32 = false := by rw [natBlt]; simp
  have h2 : Nat.blt (32 + kCode k') 64 = true := by rw [natBlt]; simp; omega
  unfold entV
  rw [h1, cond_false, h2, cond_true]
  simp only
  rw [Nat.beq_refl, h, wrapK_nat (by omega), ieq_eq]
  simp
theorem e_convm (k k' : IntKind) (y : Value) (a c : Nat) (hs : k'.signed = false) (h : c = a % modK k') : entV (32 + kCode k') (.int k (.ofNat a)) y (.int k' (.ofNat c)) = true := by
  have hl := kCode_lt k'
  have h1 : Nat.blt (32 + kCode k') 32 = false := by rw [natBlt]; simp
  have h2 : Nat.blt (32 + kCode k') 64 = true := by rw [natBlt]; simp; omega
  unfold entV
  rw [h1, cond_false, h2, cond_true]
  simp only
  have hw : wrapK k' (.ofNat a) = .ofNat c := by
    unfold wrapK
    rw [hs, cond_false, h]
    rfl
  rw [Nat.beq_refl, hw, ieq_eq]
  simp
theorem vEq_bool (b : Bool) : vEq (.bool b) (.bool b) = true := by cases b <;> rfl
theorem e_eql (k : IntKind) (a b : Int) (t : Bool) (h : decide (a = b) = t) : entV 11 (.int k a) (.int k b) (.bool t) = true := by
  refine entV_of (by decide) (binV_int (op := .eql) (by simp) (by simp) ?_) (vEq_bool _)
  simp only [aInt, ieq_eq, ← h]; rfl
theorem e_neq (k : IntKind) (a b : Int) (t : Bool) (h : decide (a ≠ b) = t) : entV 12 (.int k a) (.int k b) (.bool t) = true := by
  refine entV_of (by decide) (binV_int (op := .neq) (by simp) (by simp) ?_) (vEq_bool _)
  simp only [aInt, ieq_eq, ← h]
  by_cases e : a = b <;> simp [e]
theorem e_lss (k : IntKind) (a b : Int) (t : Bool) (h : decide (a < b) = t) : entV 13 (.int k a) (.int k b) (.bool t) = true := by
  refine entV_of (by decide) (binV_int (op := .lss) (by simp) (by simp) ?_) (vEq_bool _)
  simp only [aInt, ilt_eq, ← h]
theorem e_leq (k : IntKind) (a b : Int) (t : Bool) (h : decide (a ≤ b) = t) : entV 14 (.int k a) (.int k b) (.bool t) = true := by
  refine entV_of (by decide) (binV_int (op := .leq) (by simp) (by simp) ?_) (vEq_bool _)
  simp only [aInt, ilt_eq, ← h]
  by_cases e : a ≤ b
  · simp [e, show ¬ b < a by omega]
  · simp [e, show b < a by omega]
theorem e_gtr (k : IntKind) (a b : Int) (t : Bool) (h : decide (b < a) = t) : entV 15 (.int k a) (.int k b) (.bool t) = true := by
  refine entV_of (by decide) (binV_int (op := .gtr) (by simp) (by simp) ?_) (vEq_bool _)
  simp only [aInt, ilt_eq, ← h]
theorem e_geq (k : IntKind) (a b : Int) (t : Bool) (h : decide (b ≤ a) = t) : entV 16 (.int k a) (.int k b) (.bool t) = true := by
  refine entV_of (by decide) (binV_int (op := .geq) (by simp) (by simp) ?_) (vEq_bool _)
  simp only [aInt, ilt_eq, ← h]
  by_cases e : b ≤ a
  · simp [e, show ¬ a < b by omega]
  · simp [e, show a < b by omega]
theorem e_idx (k : IntKind) (s : ByteArray) (lo n a c : Nat) (h : allB n (fun i => entIx (.int k (.ofNat (lo + i))) (.string s) (.int .u8 (.ofNat c))) = true) (h1 : lo ≤ a) (h2 : a < lo + n) : entV 70 (.int k (.ofNat a)) (.string s) (.int .u8 (.ofNat c)) = true := by
  have := allB_spec h (a - lo) (by omega)
  rw [show lo + (a - lo) = a by omega] at this
  exact this
theorem entE_of {c : Nat} {x y v : Value} (hc : c < 32) (h : entV c x y v = true) : entE c x y = v := by
  have h1 : Nat.blt c 32 = true := by rw [natBlt]; simpa using hc
  unfold entV at h
  rw [h1, cond_true] at h
  unfold entE
  rw [h1, cond_true, isV_eq h]
theorem entE_conv {k' : IntKind} {k : IntKind} {a : Int} {y : Value} {c : Int} (h : entV (32 + kCode k') (.int k a) y (.int k' c) = true) : entE (32 + kCode k') (.int k a) y = .int k' c := by
  have hl := kCode_lt k'
  have h1 : Nat.blt (32 + kCode k') 32 = false := by rw [natBlt]; simp
  have h2 : Nat.blt (32 + kCode k') 64 = true := by rw [natBlt]; simp; omega
  have h3 : Nat.beq (32 + kCode k') 70 = false := by rw [natBeq]; simp; omega
  unfold entV at h
  rw [h1, cond_false, h2, cond_true] at h
  simp only [Nat.beq_refl, Bool.true_and, ieq_eq, beq_iff_eq] at h
  unfold entE
  rw [h1, cond_false, h3, cond_false]
  simp only
  rw [show 32 + kCode k' - 32 = kCode k' by omega, kOf_kCode, ← h]
theorem infoOk_rng {i : Nat} {k : IntKind} {lo hi n : Int} (h : G i = .int k n) (h1 : lo ≤ n) (h2 : n ≤ hi) : InfoOk G i ⟨some (k, lo, hi), none, []⟩ :=
  ⟨fun k' lo' hi' e => by cases e; exact ⟨n, h, h1, h2⟩, fun l e => (by cases e), fun e he => absurd he (by simp)⟩
theorem infoOk_nil {i : Nat} : InfoOk G i ⟨none, none, []⟩ := ⟨fun _ _ _ e => (by cases e), fun _ e => (by cases e), fun e he => absurd he (by simp)⟩
theorem infoOk_cons {i : Nat} {r : Option (IntKind × Int × Int)} {c : Nat} {a b v : Value} {es : List Ent} (ha : nameB a = true) (hb : nameB b = true) (hv : nameB v = true) (h : entV c (gv G a) (gv G b) (gv G v) = true) (hi : InfoOk G i ⟨r, none, es⟩) : InfoOk G i ⟨r, none, ⟨c, a, b, v⟩ :: es⟩ :=
  ⟨hi.rng, hi.str, fun e he => by
    rcases List.mem_cons.1 he with rfl | he
    · exact ⟨ha, hb, hv, h⟩
    · exact hi.ents e he⟩
theorem tabOk_nil : TabOk G [] := fun j f h => by simp at h
theorem tabOk_at {tab : List NInfo} {n : Nat} (h : ∀ j, j < n → ∀ f, tab[j]? = some f → InfoOk G j f) (hl : tab.length ≤ n) : TabOk G tab := fun j f hf => by
  rcases Nat.lt_or_ge j n with h1 | h1
  · exact h j h1 f hf
  · rw [List.getElem?_eq_none (by omega)] at hf; cases hf
abbrev z0 : NInfo := ⟨none, none, []⟩
abbrev cn (n : Nat) : Value := .chan (some n)
abbrev jn (n : Nat) : Value := .int .i64 (.ofNat n)
abbrev bn (n : Nat) : Value := .int .u8 (.ofNat n)
abbrev q0 : Int := .ofNat 48
abbrev q1 : Int := .ofNat 49
abbrev q2 : Int := .ofNat 50
abbrev q3 : Int := .ofNat 51
abbrev q4 : Int := .ofNat 52
abbrev q5 : Int := .ofNat 53
abbrev q6 : Int := .ofNat 54
abbrev q7 : Int := .ofNat 55
abbrev q8 : Int := .ofNat 56
abbrev q9 : Int := .ofNat 57
end Vai
