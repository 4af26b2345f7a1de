/- What is read is what is written: the plain law of records. -/
import Derived.Test.YtgfkgoiaoglhnaaProg
import Derived.WalkKit
import Derived.ProofKit
import Derived.Lib.Hide
import Derived.WalkLawsBesides
import Derived.WalkSpells
import Derived.Deep.RegionWith
import Derived.Test.YtgfkgoiaoglhnaaJQ
namespace Go.Proofs.Ytgfkgoiaoglhnaa.jr
open Go Go.RowKit
set_option linter.unusedVariables false
set_option linter.unusedSimpArgs false
theorem byteAt_zero (c : UInt8) (m : Nat) : byteAt (c.toNat + 256 * m) 0 = c := by
  unfold byteAt
  apply UInt8.toNat_inj.1
  have := c.toNat_lt
  simp
theorem byteAt_succ (c : UInt8) (m i : Nat) : byteAt (c.toNat + 256 * m) (i + 1) = byteAt m i := by
  unfold byteAt
  have := c.toNat_lt
  congr 1
  rw [Nat.pow_succ, Nat.mul_comm (256 ^ i) 256, ← Nat.div_div_eq_div_mul]
  have e : (c.toNat + 256 * m) / 256 = m := by omega
  rw [e]
theorem leB_cons (c : UInt8) (m : Nat) : ∀ k, leB (c.toNat + 256 * m) (k + 1) = c :: leB m k
  | 0 => by simp [leB, byteAt_zero]
  | k + 1 => by
    rw [leB, leB_cons c m k, byteAt_succ]
    rfl
theorem leB_back : ∀ l : List UInt8, leB (leN l) l.length = l
  | [] => rfl
  | c :: l => by
    show leB (c.toNat + 256 * leN l) (l.length + 1) = c :: l
    rw [leB_cons, leB_back l]
theorem rTake_good {r : Rd} {n : Nat} (h : (rTake r n).2.bad = false) : r.bad = false ∧ n ≤ r.b.length ∧ rTake r n = (r.b.take n, ⟨r.b.drop n, r.L, false⟩) := by
  unfold rTake at h ⊢
  split at h
  · cases h
  · rename_i hx
    have hb : r.bad = false := h
    rw [if_neg hx, hb]
    exact ⟨rfl, by omega, rfl⟩
/-- The writer stands where the reader stands. -/
def Sync (l : List UInt8) (w : Wr) (r : Rd) : Prop := w.b ++ r.b = l ∧ (w.L : Int) = r.L ∧ w.bad = false
theorem le_take {b : List UInt8} {n : Nat} (h : n ≤ b.length) : leB (leN (b.take n)) n = b.take n := by
  have := leB_back (b.take n)
  rwa [List.length_take, Nat.min_eq_left h] at this
theorem sync_text {l : List UInt8} {w : Wr} {r : Rd} (h : r.bad = false → Sync l w r) (hb : (rText r).2.bad = false) : r.bad = false ∧ (rText r).1.length ≤ 300 ∧ Sync l (wText w (bs (rText r).1)) (rText r).2 := by
  unfold rText at hb ⊢
  obtain ⟨g1, g2, g3⟩ := rTake_good hb
  have hh : (rTake r 2).2.bad = false ∧ leN (rTake r 2).1 ≤ 300 ∧ (rTake r 2).2.L + (leN (rTake r 2).1 : Int) ≤ 6000 := by
    have : ((rTake r 2).2.bad || decide (300 < leN (rTake r 2).1) || decide (6000 < (rTake r 2).2.L + (leN (rTake r 2).1 : Int))) = false := g1
    rw [Bool.or_eq_false_iff, Bool.or_eq_false_iff, decide_eq_false_iff_not, decide_eq_false_iff_not] at this
    exact ⟨this.1.1, by omega, by omega⟩
  obtain ⟨h1, h2, h3⟩ := hh
  obtain ⟨k1, k2, k3⟩ := rTake_good h1
  obtain ⟨s1, s2, s3⟩ := h k1
  rw [g3]
  have e1 : (rHead r).1 = leN (r.b.take 2) := by show leN (rTake r 2).1 = _; rw [k3]
  have e2 : (rHead r).2.b = r.b.drop 2 := by show (rTake r 2).2.b = _; rw [k3]
  have e3 : (rHead r).2.L = r.L + (leN (r.b.take 2) : Int) := by show (rTake r 2).2.L + (leN (rTake r 2).1 : Int) = _; rw [k3]
  rw [k3] at h2 h3
  simp only at h2 h3
  rw [e1, e2] at g2
  generalize hn : leN (r.b.take 2) = n at *
  rw [e1, e2, e3]
  have hlen : ((r.b.drop 2).take n).length = n := by rw [List.length_take, Nat.min_eq_left g2]
  have hsz : (bs ((r.b.drop 2).take n)).size = n := by show ((r.b.drop 2).take n).toArray.size = n; simp only [List.size_toArray]; exact hlen
  refine ⟨k1, by show ((r.b.drop 2).take n).length ≤ 300; omega, ?_, ?_, ?_⟩
  · show (w.b ++ leB (bs ((r.b.drop 2).take n)).size 2 ++ (r.b.drop 2).take n) ++ (r.b.drop 2).drop n = l
    have hle : leB n 2 = r.b.take 2 := by rw [← hn]; exact le_take k2
    rw [hsz, hle, List.append_assoc, List.take_append_drop, List.append_assoc, List.take_append_drop]
    exact s1
  · show ((w.L + (bs ((r.b.drop 2).take n)).size : Nat) : Int) = r.L + (n : Int)
    rw [hsz]
    omega
  · show (w.bad || decide (300 < (bs ((r.b.drop 2).take n)).size) || decide (6000 < w.L + (bs ((r.b.drop 2).take n)).size)) = false
    rw [hsz, s3]
    have d1 : decide (300 < n) = false := decide_eq_false (by omega)
    have d2 : decide (6000 < w.L + n) = false := decide_eq_false (by omega)
    rw [d1, d2]
    rfl
theorem sync_num {l : List UInt8} {w : Wr} {r : Rd} (h : r.bad = false → Sync l w r) (hb : (rNum r).2.bad = false) : r.bad = false ∧ (0 ≤ (rNum r).1 ∧ (rNum r).1 ≤ 9223372036854775807) ∧ Sync l (wNum w (rNum r).1) (rNum r).2 := by
  have hh : (rTake r 8).2.bad = false ∧ 0 ≤ s64 (leN (rTake r 8).1) := by
    have : ((rTake r 8).2.bad || decide (s64 (leN (rTake r 8).1) < 0)) = false := hb
    rw [Bool.or_eq_false_iff, decide_eq_false_iff_not] at this
    exact ⟨this.1, by omega⟩
  obtain ⟨h1, h2⟩ := hh
  obtain ⟨k1, k2, k3⟩ := rTake_good h1
  obtain ⟨s1, s2, s3⟩ := h k1
  have e1 : (rNum r).1 = s64 (leN (r.b.take 8)) := by show s64 (leN (rTake r 8).1) = _; rw [k3]
  have e2 : (rNum r).2.b = r.b.drop 8 := by show (rTake r 8).2.b = _; rw [k3]
  have e3 : (rNum r).2.L = r.L := by show (rTake r 8).2.L = _; rw [k3]
  rw [k3] at h2
  simp only at h2
  have hlt := leN_le (r.b.take 8) 8 (by simp; omega)
  have hle : leB (leN (r.b.take 8)) 8 = r.b.take 8 := le_take k2
  generalize leN (r.b.take 8) = n at *
  have hx : s64 n = (n : Int) ∧ n < 9223372036854775808 := by
    unfold s64 at h2 ⊢
    split at h2
    · rename_i hh
      rw [if_pos hh]
      exact ⟨rfl, hh⟩
    · exfalso
      have : (256 : Nat) ^ 8 = 18446744073709551616 := rfl
      omega
  rw [e1, hx.1]
  refine ⟨k1, by omega, ?_, ?_, ?_⟩
  · show (w.b ++ leB ((n : Int) % 18446744073709551616).toNat 8) ++ (rNum r).2.b = l
    have : ((n : Int) % 18446744073709551616).toNat = n := by omega
    rw [this, hle, e2, List.append_assoc, List.take_append_drop]
    exact s1
  · show (w.L : Int) = _
    rw [e3]; exact s2
  · show (w.bad || decide ((n : Int) < 0)) = false
    rw [s3, decide_eq_false (by omega)]
    rfl
theorem sync_count {l : List UInt8} {w : Wr} {r : Rd} (h : r.bad = false → Sync l w r) (hb : (rCount r).2.bad = false) : r.bad = false ∧ (rCount r).1 ≤ 64 ∧ Sync l (wCount w (rCount r).1) (rCount r).2 := by
  have hh : (rTake r 1).2.bad = false ∧ leN (rTake r 1).1 ≤ 64 := by
    have : ((rTake r 1).2.bad || decide (64 < leN (rTake r 1).1)) = false := hb
    rw [Bool.or_eq_false_iff, decide_eq_false_iff_not] at this
    exact ⟨this.1, by omega⟩
  obtain ⟨h1, h2⟩ := hh
  obtain ⟨k1, k2, k3⟩ := rTake_good h1
  obtain ⟨s1, s2, s3⟩ := h k1
  have e1 : (rCount r).1 = leN (r.b.take 1) := by show leN (rTake r 1).1 = _; rw [k3]
  have e2 : (rCount r).2.b = r.b.drop 1 := by show (rTake r 1).2.b = _; rw [k3]
  have e3 : (rCount r).2.L = r.L := by show (rTake r 1).2.L = _; rw [k3]
  rw [k3] at h2
  simp only at h2
  have hle : leB (leN (r.b.take 1)) 1 = r.b.take 1 := le_take k2
  generalize leN (r.b.take 1) = n at *
  rw [e1]
  refine ⟨k1, h2, ?_, ?_, ?_⟩
  · show (w.b ++ [UInt8.ofNat n]) ++ (rCount r).2.b = l
    have : [UInt8.ofNat n] = leB n 1 := by simp [leB, byteAt]
    rw [this, hle, e2, List.append_assoc, List.take_append_drop]
    exact s1
  · show (w.L : Int) = _
    rw [e3]; exact s2
  · show (w.bad || decide (64 < n)) = false
    rw [s3, decide_eq_false (by omega)]
    rfl
theorem sync_go {l : List UInt8} : ∀ (n : Nat) (w : Wr) (r : Rd), (r.bad = false → Sync l w r) → (rGo n r).2.bad = false → r.bad = false ∧ (rGo n r).1.length = n ∧ (∀ s ∈ (rGo n r).1, s.length ≤ 300) ∧ Sync l (((rGo n r).1.map bs).foldl wText w) (rGo n r).2
  | 0, w, r, h, hb => ⟨hb, rfl, by simp [rGo], h hb⟩
  | n + 1, w, r, h, hb => by
    unfold rGo at hb ⊢
    by_cases hr : r.bad = true
    · rw [if_pos hr] at hb
      rw [hr] at hb; cases hb
    · rw [if_neg hr] at hb ⊢
      simp only at hb ⊢
      have hr' : r.bad = false := by simpa using hr
      have ih := sync_go n (wText w (bs (rText r).1)) (rText r).2 (fun hb2 => (sync_text h hb2).2.2) hb
      obtain ⟨i1, i2, i3, i4⟩ := ih
      obtain ⟨_, t2, _⟩ := sync_text h i1
      refine ⟨hr', by simp [i2], ?_, by simpa using i4⟩
      intro s hs
      rcases List.mem_cons.1 hs with rfl | hs
      · exact t2
      · exact i3 s hs
theorem sync_list {l : List UInt8} {w : Wr} {r : Rd} (h : r.bad = false → Sync l w r) (hb : (rList r).2.bad = false) : r.bad = false ∧ (∀ s ∈ (rList r).1, s.length ≤ 300) ∧ (rList r).1.length ≤ 64 ∧ Sync l (wList w ((rList r).1.map bs)) (rList r).2 := by
  unfold rList at hb ⊢
  obtain ⟨i1, i2, i3, i4⟩ := sync_go (rCount r).1 (wCount w (rCount r).1) (rCount r).2 (fun hb2 => (sync_count h hb2).2.2) hb
  obtain ⟨c1, c2, _⟩ := sync_count h i1
  refine ⟨c1, i3, by omega, ?_⟩
  unfold wList
  rw [List.length_map, i2, List.take_of_length_le (by rw [List.length_map, i2]; exact c2)]
  exact i4
theorem sync_deps {l : List UInt8} : ∀ (n : Nat) (w : Wr) (r : Rd), (r.bad = false → Sync l w r) → (rD n r).2.bad = false → r.bad = false ∧ (rD n r).1.length = n ∧ (∀ d ∈ (rD n r).1, d.1.size ≤ 300 ∧ 0 ≤ d.2 ∧ d.2 ≤ 9223372036854775807) ∧ Sync l ((rD n r).1.foldl wDep w) (rD n r).2
  | 0, w, r, h, hb => ⟨hb, rfl, by simp [rD], h hb⟩
  | n + 1, w, r, h, hb => by
    unfold rD at hb ⊢
    by_cases hr : r.bad = true
    · rw [if_pos hr] at hb
      rw [hr] at hb; cases hb
    · rw [if_neg hr] at hb ⊢
      simp only at hb ⊢
      have hr' : r.bad = false := by simpa using hr
      have ht : (rText r).2.bad = false → Sync l (wText w (bs (rText r).1)) (rText r).2 := fun hb2 => (sync_text h hb2).2.2
      have ih := sync_deps n (wNum (wText w (bs (rText r).1)) (rNum (rText r).2).1) (rNum (rText r).2).2 (fun hb2 => (sync_num ht hb2).2.2) hb
      obtain ⟨i1, i2, i3, i4⟩ := ih
      obtain ⟨n1, n2, _⟩ := sync_num ht i1
      obtain ⟨_, t2, _⟩ := sync_text h n1
      refine ⟨hr', by simp [i2], ?_, by simpa [wDep] using i4⟩
      intro d hd
      rcases List.mem_cons.1 hd with rfl | hd
      · exact ⟨by show (rText r).1.toArray.size ≤ 300; simpa using t2, n2⟩
      · exact i3 d hd
end Go.Proofs.Ytgfkgoiaoglhnaa.jr
