/- The plain law of records that are cut anywhere: what stands whole is told. -/
import Derived.Test.YtdbnfaeanngajaaProg
import Derived.WalkKit
import Derived.ProofKit
import Derived.Lib.Hide
import Derived.WalkLawsBesides
import Derived.WalkSpells
import Derived.Deep.RegionWith
import Derived.Test.YtdbnfaeanngajaaJD
namespace Go.Proofs.Ytdbnfaeanngajaa.jr
open Go Go.RowKit
set_option linter.unusedVariables false
set_option linter.unusedSimpArgs false
open lb (seg)
def joinF : List (List UInt8) → List UInt8
  | [] => []
  | p :: ps => frameL p ++ joinF ps
theorem joinF_app : ∀ (a b : List (List UInt8)), joinF (a ++ b) = joinF a ++ joinF b
  | [], b => rfl
  | p :: a, b => by
    show frameL p ++ joinF (a ++ b) = (frameL p ++ joinF a) ++ joinF b
    rw [joinF_app a b, List.append_assoc]
theorem byteAt_toNat (n i : Nat) : (byteAt n i).toNat = n / 256 ^ i % 256 := by simp [byteAt]
theorem leN_app : ∀ (a b : List UInt8), leN (a ++ b) = leN a + 256 ^ a.length * leN b
  | [], b => by simp [leN]
  | c :: a, b => by
    show c.toNat + 256 * leN (a ++ b) = c.toNat + 256 * leN a + 256 ^ (a.length + 1) * leN b
    rw [leN_app a b, Nat.mul_add, Nat.pow_succ, Nat.mul_comm (256 ^ a.length) 256, Nat.mul_assoc]
    omega
theorem le_back (n : Nat) (h : n < 4294967296) : leN (leB n 4) = n := by
  simp only [leB, List.nil_append, List.cons_append, leN, byteAt_toNat]
  simp only [Nat.pow_zero, Nat.div_one, Nat.pow_succ, Nat.one_mul]
  omega
theorem seg_take (l : List UInt8) (c i n : Nat) (h : i + n ≤ c) : seg (l.take c) i n = seg l i n := by
  unfold seg
  rw [List.drop_take, List.take_take]
  congr 1
  omega
theorem seg_app (a x : List UInt8) (i n k : Nat) (h : k = a.length + i) : seg (a ++ x) k n = seg x i n := by
  subst h
  unfold seg
  rw [List.drop_append, List.drop_eq_nil_of_le (by omega), List.nil_append, Nat.add_sub_cancel_left]
theorem seg_left (x r : List UInt8) (i n : Nat) (h : i + n ≤ x.length) : seg (x ++ r) i n = seg x i n := by
  unfold seg
  rw [List.drop_append_of_le_length (by omega), List.take_append_of_le_length (by simp; omega)]
theorem frame_parts (p : List UInt8) (h : p.length ≤ 8192) : seg (frameL p) 0 4 = leB p.length 4 ∧ seg (frameL p) 4 4 = leB (crcR p) 4 ∧ seg (frameL p) 8 p.length = p := by
  rw [frame_fit h]
  refine ⟨?_, ?_, ?_⟩
  · rw [List.append_assoc, seg_left _ _ 0 4 (by simp [leB_len])]
    unfold seg
    simp [List.take_of_length_le, leB_len]
  · rw [List.append_assoc, seg_app (leB p.length 4) _ 0 4 4 (by simp [leB_len]), seg_left _ _ 0 4 (by simp [leB_len])]
    unfold seg
    simp [List.take_of_length_le, leB_len]
  · rw [seg_app (leB p.length 4 ++ leB (crcR p) 4) p 0 p.length 8 (by simp [leB_len])]
    unfold seg
    simp
/-- A record that stands whole ahead of the cut. -/
theorem rec_whole (A p R : List UInt8) (c : Nat) (hp : p.length ≤ 8192) (hc : A.length + 8 + p.length ≤ c) (hl : c ≤ (A ++ (frameL p ++ R)).length) :
    recAt ((A ++ (frameL p ++ R)).take c) A.length = some p.length ∧ seg ((A ++ (frameL p ++ R)).take c) (A.length + 8) p.length = p := by
  have hfl := frame_len hp
  have hlen : ((A ++ (frameL p ++ R)).take c).length = c := by rw [List.length_take]; omega
  obtain ⟨f1, f2, f3⟩ := frame_parts p hp
  have s1 : seg ((A ++ (frameL p ++ R)).take c) A.length 4 = leB p.length 4 := by
    rw [seg_take _ _ _ _ (by omega), seg_app A _ 0 4 _ (by omega), seg_left _ _ _ _ (by omega), f1]
  have s2 : seg ((A ++ (frameL p ++ R)).take c) (A.length + 4) 4 = leB (crcR p) 4 := by
    rw [seg_take _ _ _ _ (by omega), seg_app A _ 4 4 _ (by omega), seg_left _ _ _ _ (by omega), f2]
  have s3 : seg ((A ++ (frameL p ++ R)).take c) (A.length + 8) p.length = p := by
    rw [seg_take _ _ _ _ (by omega), seg_app A _ 8 _ _ (by omega), seg_left _ _ _ _ (by omega), f3]
  have hn : leN (seg ((A ++ (frameL p ++ R)).take c) A.length 4) = p.length := by rw [s1, le_back _ (by omega)]
  refine ⟨?_, s3⟩
  have := rec_good (l := (A ++ (frameL p ++ R)).take c) (at_ := A.length) (by omega) (by omega) (by omega) (by rw [hn, s2, s3, le_back _ (crcR_lt p)])
  rw [this, hn]
/-- A record that does not. -/
theorem rec_part (A p R : List UInt8) (c : Nat) (hp : p.length ≤ 8192) (hc : c < A.length + 8 + p.length) (hl : c ≤ (A ++ (frameL p ++ R)).length) :
    recAt ((A ++ (frameL p ++ R)).take c) A.length = none := by
  have hfl := frame_len hp
  have hlen : ((A ++ (frameL p ++ R)).take c).length = c := by rw [List.length_take]; omega
  by_cases h8 : c < A.length + 8
  · exact rec_short (by omega)
  · obtain ⟨f1, _, _⟩ := frame_parts p hp
    have s1 : seg ((A ++ (frameL p ++ R)).take c) A.length 4 = leB p.length 4 := by
      rw [seg_take _ _ _ _ (by omega), seg_app A _ 0 4 _ (by omega), seg_left _ _ _ _ (by omega), f1]
    have hn : leN (seg ((A ++ (frameL p ++ R)).take c) A.length 4) = p.length := by rw [s1, le_back _ (by omega)]
    exact rec_big (by omega) (by omega)
/-- How many records stand whole, and where the last one ends. -/
def wholeN (c : Nat) : Nat → List (List UInt8) → Nat × Nat
  | at_, [] => (0, at_)
  | at_, p :: ps => if at_ + 8 + p.length ≤ c then (1 + (wholeN c (at_ + 8 + p.length) ps).1, (wholeN c (at_ + 8 + p.length) ps).2) else (0, at_)
theorem scan_prefix (c : Nat) : ∀ (ps : List (List UInt8)) (A : List UInt8) (g : Nat), (∀ p ∈ ps, p.length ≤ 8192) → A.length ≤ c → c ≤ (A ++ joinF ps).length → c ≤ g + A.length →
    scanF g ((A ++ joinF ps).take c) A.length = (ps.take (wholeN c A.length ps).1, (wholeN c A.length ps).2)
  | [], A, g, _, ha, hc, _ => by
    rw [scanF_none g _ _ (rec_short (by simp [joinF] at hc ⊢; omega))]
    simp [wholeN]
  | p :: ps, A, g, hp, ha, hc, hg => by
    have hp0 := hp p (by simp)
    have hfl := frame_len hp0
    show scanF g ((A ++ (frameL p ++ joinF ps)).take c) A.length = _
    have hc' : c ≤ (A ++ (frameL p ++ joinF ps)).length := hc
    rw [wholeN]
    by_cases hw : A.length + 8 + p.length ≤ c
    · rw [if_pos hw]
      obtain ⟨h1, h2⟩ := rec_whole A p (joinF ps) c hp0 hw hc'
      have hlen : ((A ++ (frameL p ++ joinF ps)).take c).length = c := by rw [List.length_take]; omega
      obtain ⟨g', hg', hs⟩ := scanF_some g _ _ _ h1 (by omega)
      rw [hs, h2]
      have ih := scan_prefix c ps (A ++ frameL p) g' (fun q hq => hp q (by simp [hq])) (by simp; omega) (by simpa [List.append_assoc] using hc') (by rw [hlen] at hg'; simp; omega)
      rw [List.append_assoc] at ih
      have hal : (A ++ frameL p).length = A.length + 8 + p.length := by simp; omega
      rw [hal] at ih
      rw [ih, Nat.add_comm 1]
      rfl
    · rw [if_neg hw, scanF_none g _ _ (rec_part A p (joinF ps) c hp0 (by omega) hc')]
      rfl
end Go.Proofs.Ytdbnfaeanngajaa.jr
