/- Names, in plain words: pieces of a text, labels, what is clean. -/
import Derived.Test.YtkjjidmchepjcaaDoorProg
import Derived.WalkKit
import Derived.ProofKit
import Derived.Lib.Hide
import Derived.WalkLawsBesides
import Derived.WalkSpells
import Derived.Deep.RegionWith
import Derived.Lib.SplitLaws
import Derived.Lib.IndexLaws
import Derived.Test.YtkjjidmchepjcaaDoorLB
namespace Go.Proofs.YtkjjidmchepjcaaDoor.nm
open Go Go.RowKit
set_option linter.unusedVariables false
set_option linter.unusedSimpArgs false
abbrev bsl (l : List UInt8) : ByteArray := ⟨l.toArray⟩
abbrev sV (l : List UInt8) : Value := .string (bsl l)
theorem bsl_back (s : ByteArray) : bsl s.data.toList = s := by
  cases s; simp
theorem bsl_inj {a b : List UInt8} (h : bsl a = bsl b) : a = b := by
  have := congrArg (fun s : ByteArray => s.data.toList) h
  simpa using this
/-- The pieces of a text at a byte. -/
def spl (c : UInt8) : List UInt8 → List (List UInt8)
  | [] => [[]]
  | x :: l => if x == c then [] :: spl c l else
    match spl c l with
    | [] => [[x]]
    | p :: ps => (x :: p) :: ps
theorem spl_hit (c : UInt8) (l : List UInt8) : spl c (c :: l) = [] :: spl c l := by
  simp [spl]
theorem spl_miss (c x : UInt8) (l : List UInt8) (h : (x == c) = false) : spl c (x :: l) = match spl c l with
    | [] => [[x]]
    | p :: ps => (x :: p) :: ps := by
  conv => lhs; unfold spl
  rw [h]
  rfl
theorem spl_ne (c : UInt8) : ∀ l, spl c l ≠ []
  | [] => by simp [spl]
  | x :: l => by
    by_cases h : (x == c) = true
    · have : x = c := by simpa using h
      subst this
      rw [spl_hit]; simp
    · rw [spl_miss c x l (by simpa using h)]
      split <;> simp
theorem spl_cons (c x : UInt8) (l : List UInt8) (h : (x == c) = false) : ∃ p ps, spl c l = p :: ps ∧ spl c (x :: l) = (x :: p) :: ps := by
  cases hs : spl c l with
  | nil => exact absurd hs (spl_ne c l)
  | cons p ps => exact ⟨p, ps, rfl, by rw [spl_miss c x l h, hs]⟩
theorem spl_no (c : UInt8) : ∀ l, Lib.indexByte l c = -1 → spl c l = [l]
  | [], _ => rfl
  | x :: l, h => by
    unfold Lib.indexByte at h
    by_cases hx : (x == c) = true
    · rw [if_pos hx] at h; cases h
    · rw [if_neg hx] at h
      have hl : Lib.indexByte l c = -1 := by
        have := Lib.indexByte_ge l c
        split at h
        · rename_i hh; simpa using hh
        · omega
      rw [spl_miss c x l (by simpa using hx), spl_no c l hl]
theorem spl_at (c : UInt8) : ∀ l (j : Nat), Lib.indexByte l c = j → spl c l = l.take j :: spl c (l.drop (j + 1))
  | [], j, h => by unfold Lib.indexByte at h; omega
  | x :: l, j, h => by
    unfold Lib.indexByte at h
    by_cases hx : (x == c) = true
    · rw [if_pos hx] at h
      have hj : j = 0 := by omega
      subst hj
      have : x = c := by simpa using hx
      subst this
      rw [spl_hit]; rfl
    · rw [if_neg hx] at h
      have hl : ∃ i : Nat, Lib.indexByte l c = i ∧ j = i + 1 := by
        have := Lib.indexByte_ge l c
        split at h
        · omega
        · rename_i hh
          have : Lib.indexByte l c ≠ -1 := by simpa using hh
          exact ⟨(Lib.indexByte l c).toNat, by omega, by omega⟩
      obtain ⟨i, hi, rfl⟩ := hl
      rw [spl_miss c x l (by simpa using hx), spl_at c l i hi]
      rfl
theorem splitK_spl (c : UInt8) : ∀ (k : Nat) (l : List UInt8), Lib.count l [c] = k → Lib.splitK [c] 0 k l = spl c l
  | 0, l, h => by
    rcases Lib.index_spec l [c] with ⟨h1, _⟩ | ⟨j, h1, _⟩
    · rw [Lib.index_one] at h1
      rw [spl_no c l h1]; rfl
    · have := Lib.count_hit (s := l) (sub := [c]) (by simp) h1
      omega
  | k + 1, l, h => by
    rcases Lib.index_spec l [c] with ⟨h1, _⟩ | ⟨j, h1, _⟩
    · have := Lib.count_miss (s := l) (sub := [c]) h1
      omega
    · have hc := Lib.count_hit (s := l) (sub := [c]) (by simp) h1
      have hx : ((j : Int) == -1) = false := by simp
      have hb : Lib.indexByte l c = j := by rw [← Lib.index_one]; exact h1
      rw [Lib.splitK, h1, hx, if_neg (by simp), spl_at c l j hb]
      simp only [Int.toNat_natCast, Nat.add_zero, List.length_cons, List.length_nil, Nat.zero_add]
      rw [splitK_spl c k (l.drop (j + 1)) (by simp only [List.length_cons, List.length_nil, Nat.zero_add] at hc; omega)]
theorem split_spl (c : UInt8) (l : List UInt8) : Lib.split l [c] = spl c l := splitK_spl c _ l rfl
theorem spl_length (c : UInt8) : ∀ l, (spl c l).length = l.count c + 1
  | [] => rfl
  | x :: l => by
    by_cases h : (x == c) = true
    · have : x = c := by simpa using h
      subst this
      rw [spl_hit, List.length_cons, spl_length x l]; simp
    · have h' : (x == c) = false := by simpa using h
      obtain ⟨p, ps, h1, h2⟩ := spl_cons c x l h'
      have h3 := spl_length c l
      rw [h1] at h3
      rw [h2, List.count_cons_of_ne (by simpa using h'), ← h3]
      rfl
theorem spl_short (c : UInt8) : ∀ l, ∀ p ∈ spl c l, p.length ≤ l.length
  | [], p, h => by simp [spl] at h; subst h; simp
  | x :: l, p, h => by
    by_cases hx : (x == c) = true
    · have : x = c := by simpa using hx
      subst this
      rw [spl_hit] at h
      rcases List.mem_cons.1 h with rfl | h
      · simp
      · have := spl_short x l p h
        simp; omega
    · obtain ⟨q, ps, h1, h2⟩ := spl_cons c x l (by simpa using hx)
      rw [h2] at h
      rcases List.mem_cons.1 h with rfl | h
      · have := spl_short c l q (by rw [h1]; simp)
        simp; omega
      · have := spl_short c l p (by rw [h1]; simp [h])
        simp; omega
/-- Where the pieces are made one by one: 'from' has gone by 'i' bytes of a piece. -/
def splFrom (c : UInt8) (w : List UInt8) : List UInt8 → List (List UInt8)
  | [] => [w]
  | x :: l => if x == c then w :: splFrom c [] l else splFrom c (w ++ [x]) l
theorem splFrom_eq (c : UInt8) : ∀ (l w : List UInt8), ∃ p ps, spl c l = p :: ps ∧ splFrom c w l = (w ++ p) :: ps
  | [], w => ⟨[], [], rfl, by simp [splFrom]⟩
  | x :: l, w => by
    by_cases h : (x == c) = true
    · have : x = c := by simpa using h
      subst this
      obtain ⟨p, ps, h1, h2⟩ := splFrom_eq x l []
      refine ⟨[], p :: ps, by rw [spl_hit, h1], ?_⟩
      rw [splFrom, if_pos (by simp), h2]
      simp
    · obtain ⟨p, ps, h1, h2⟩ := splFrom_eq c l (w ++ [x])
      obtain ⟨p', ps', h1', h3⟩ := spl_cons c x l (by simpa using h)
      rw [h1] at h1'
      simp at h1'
      obtain ⟨rfl, rfl⟩ := h1'
      refine ⟨x :: p, ps, h3, ?_⟩
      rw [splFrom, if_neg h, h2]
      simp
theorem splFrom_nil (c : UInt8) (l : List UInt8) : splFrom c [] l = spl c l := by
  obtain ⟨p, ps, h1, h2⟩ := splFrom_eq c l []
  rw [h2, h1]; rfl
/-! Labels. -/
def alnum (c : UInt8) : Bool := decide (97 ≤ c.toNat ∧ c.toNat ≤ 122) || decide (65 ≤ c.toNat ∧ c.toNat ≤ 90) || decide (48 ≤ c.toNat ∧ c.toNat ≤ 57)
def labC (c : UInt8) : Bool := alnum c || c == 45 || c == 95
def labelB (l : List UInt8) : Bool := l.all labC && !l.isEmpty && decide (l.length ≤ 63)
def foldC (c : UInt8) : UInt8 := if 65 ≤ c.toNat ∧ c.toNat ≤ 90 then c + 32 else c
def foldL (l : List UInt8) : List UInt8 := l.map foldC
/-- A name without the point at its end, and whether there is one. -/
def root (l : List UInt8) : List UInt8 × Bool := if l.getLast? = some 46 then (l.dropLast, true) else (l, false)
def okN (n : List UInt8) : Bool := !n.isEmpty && decide (n.length ≤ 253) && (spl 46 n).all labelB
/-- What Clean gives. -/
def cleanL (l : List UInt8) : List UInt8 × Bool × Bool := if okN (root l).1 = true then (foldL (root l).1, (root l).2, true) else ([], false, false)
theorem or32 : ∀ c : UInt8, labC c = (decide (97 ≤ (c ||| 32).toNat ∧ (c ||| 32).toNat ≤ 122) || decide (48 ≤ c.toNat ∧ c.toNat ≤ 57) || decide (c.toNat = 45) || decide (c.toNat = 95)) := by
  intro c
  have h : ∀ n : Fin 256, labC (UInt8.ofNat n.val) = (decide (97 ≤ (UInt8.ofNat n.val ||| 32).toNat ∧ (UInt8.ofNat n.val ||| 32).toNat ≤ 122) || decide (48 ≤ (UInt8.ofNat n.val).toNat ∧ (UInt8.ofNat n.val).toNat ≤ 57) || decide ((UInt8.ofNat n.val).toNat = 45) || decide ((UInt8.ofNat n.val).toNat = 95)) := by decide +kernel
  have := h ⟨c.toNat, c.toNat_lt⟩
  simpa using this
end Go.Proofs.YtkjjidmchepjcaaDoor.nm
