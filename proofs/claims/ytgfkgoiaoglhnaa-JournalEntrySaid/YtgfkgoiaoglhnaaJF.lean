/- What is read is what is written: the plain law of records, whole. -/
import Derived.Test.YtgfkgoiaoglhnaaProg
import Derived.WalkKit
import Derived.ProofKit
import Derived.Lib.Hide
import Derived.WalkLawsBesides
import Derived.WalkSpells
import Derived.Deep.RegionWith
import Derived.Test.YtgfkgoiaoglhnaaJZ
namespace Go.Proofs.Ytgfkgoiaoglhnaa.jr
open Go Go.RowKit
set_option linter.unusedVariables false
set_option linter.unusedSimpArgs false
theorem sync_first {l : List UInt8} {m : UInt8} (hk : kindL l = m.toNat) (h : (q1 l).2.bad = false) : Sync l ⟨[m], 0, false⟩ (q1 l).2 := by
  obtain ⟨h1, h2, h3⟩ := rTake_good (r := ⟨l, 0, decide (8192 < l.length)⟩) (n := 1) h
  have e1 : (q1 l).1 = l.take 1 := congrArg Prod.fst h3
  have e2 : (q1 l).2 = ⟨l.drop 1, 0, false⟩ := congrArg Prod.snd h3
  have hle : leB (leN (l.take 1)) 1 = l.take 1 := le_take h2
  unfold kindL at hk
  rw [e1] at hk
  rw [hk] at hle
  have hm : leB m.toNat 1 = [m] := by
    have := byteAt_zero m 0
    rw [Nat.mul_zero, Nat.add_zero] at this
    simp [leB, this]
  rw [hm] at hle
  rw [e2]
  refine ⟨?_, rfl, rfl⟩
  show [m] ++ l.drop 1 = l
  rw [hle, List.take_append_drop]
theorem q1_short {l : List UInt8} (h : (q1 l).2.bad = false) : l.length ≤ 8192 := by
  have := (rTake_good (r := ⟨l, 0, decide (8192 < l.length)⟩) (n := 1) h).1
  simp only [decide_eq_false_iff_not] at this
  omega
theorem read_put {l : List UInt8} (h : readOk l = true) (hk : kindL l = 1) : EnOk (readE l) ∧ putL (readE l) = l := by
  obtain ⟨E, hE⟩ : ∃ E : En, E = ⟨bs (q2 l).1, (q4 l).1, (q9 l).1.map bs, (q10 l).1.map bs, (q5 l).1, (q7 l).1, (q8 l).1, (q12 l).1⟩ := ⟨_, rfl⟩
  have he : readE l = E := by rw [hE]; exact if_pos hk
  have hf : readF l = (q12 l).2 := if_pos hk
  unfold readOk at h
  rw [hf, Bool.and_eq_true, Bool.and_eq_true, Bool.not_eq_true', decide_eq_true_eq] at h
  obtain ⟨⟨hb, hl⟩, _⟩ := h
  rw [he]
  have e1 : E.key = bs (q2 l).1 := by rw [hE]
  have e2 : E.code = (q4 l).1 := by rw [hE]
  have e3 : E.names = (q9 l).1.map bs := by rw [hE]
  have e4 : E.addrs = (q10 l).1.map bs := by rw [hE]
  have e5 : E.port = (q5 l).1 := by rw [hE]
  have e6 : E.life = (q7 l).1 := by rw [hE]
  have e7 : E.exp = (q8 l).1 := by rw [hE]
  have e8 : E.deps = (q12 l).1 := by rw [hE]
  clear hE
  have S1 : (q1 l).2.bad = false → Sync l p0 (q1 l).2 := fun h => sync_first (m := 1) hk h
  have S2 : (q2 l).2.bad = false → Sync l (p1 E) (q2 l).2 := fun h => by
    have := (sync_text S1 h).2.2
    unfold p1; rw [e1]; exact this
  have S3 : (q3 l).bad = false → Sync l (p2 E) (q3 l) := fun h => ⟨(S2 h).1, rfl, (S2 h).2.2⟩
  have S4 : (q4 l).2.bad = false → Sync l (wNum (p2 E) E.code) (q4 l).2 := fun h => by
    rw [e2]; exact (sync_num S3 h).2.2
  have S5 : (q5 l).2.bad = false → Sync l (wNum (wNum (p2 E) E.code) E.port) (q5 l).2 := fun h => by
    rw [e5]; exact (sync_num S4 h).2.2
  have B6 : (q6 l).bad = false → (q5 l).2.bad = false ∧ decide (65535 < (q4 l).1) = false ∧ decide (65535 < (q5 l).1) = false := fun h => by
    have h' : ((q5 l).2.bad || decide (65535 < (q4 l).1) || decide (65535 < (q5 l).1)) = false := h
    rw [Bool.or_eq_false_iff, Bool.or_eq_false_iff] at h'
    exact ⟨h'.1.1, h'.1.2, h'.2⟩
  have S6 : (q6 l).bad = false → Sync l (wNum (wNum (p3 E) E.code) E.port) (q6 l) := fun h => by
    obtain ⟨h0, h1, h2⟩ := B6 h
    have hp : p3 E = p2 E := by
      unfold p3 p2
      rw [e2, e5, h1, h2, Bool.or_false, Bool.or_false]
    have s := S5 h0
    rw [hp]
    exact ⟨s.1, s.2.1, s.2.2⟩
  have S7 : (q7 l).2.bad = false → Sync l (wNum (wNum (wNum (p3 E) E.code) E.port) E.life) (q7 l).2 := fun h => by
    rw [e6]; exact (sync_num S6 h).2.2
  have S8 : (q8 l).2.bad = false → Sync l (p4 E) (q8 l).2 := fun h => by
    have := (sync_num S7 h).2.2
    have hp : p4 E = wNum (wNum (wNum (wNum (p3 E) E.code) E.port) E.life) E.exp := rfl
    rw [hp, e7]; exact this
  have S9 : (q9 l).2.bad = false → Sync l (p5 E) (q9 l).2 := fun h => by
    have := (sync_list S8 h).2.2.2
    unfold p5; rw [e3]; exact this
  have S10 : (q10 l).2.bad = false → Sync l (p6 E) (q10 l).2 := fun h => by
    have := (sync_list S9 h).2.2.2
    unfold p6; rw [e4]; exact this
  have S11 : (q11 l).2.bad = false → Sync l (wCount (p6 E) (q11 l).1) (q11 l).2 := fun h => (sync_count S10 h).2.2
  obtain ⟨b11, t12, d12, s12⟩ := sync_deps (q11 l).1 _ _ S11 hb
  obtain ⟨b10, c11, _⟩ := sync_count S10 b11
  obtain ⟨b9, a10, l10, _⟩ := sync_list S9 b10
  obtain ⟨b8, a9, l9, _⟩ := sync_list S8 b9
  obtain ⟨b7, n8, _⟩ := sync_num S7 b8
  obtain ⟨b6, n7, _⟩ := sync_num S6 b7
  obtain ⟨b5, _⟩ := B6 b6
  obtain ⟨b4, n5, _⟩ := sync_num S4 b5
  obtain ⟨b3, n4, _⟩ := sync_num S3 b4
  obtain ⟨b1, t2, _⟩ := sync_text S1 b3
  have hlen := q1_short b1
  have c11 : (q11 l).1 ≤ 64 := c11
  have h7 : E.deps.length = (q11 l).1 := by rw [e8]; exact t12
  have hput : Sync l (putW E) (q12 l).2 := by
    unfold putW p7
    rw [h7, List.take_of_length_le (by omega), e8]
    exact s12
  obtain ⟨x1, x2, x3⟩ := hput
  have hnil : (q12 l).2.b = [] := List.eq_nil_of_length_eq_zero hl
  rw [hnil, List.append_nil] at x1
  have bsz : ∀ s : List UInt8, (bs s).size = s.length := fun s => by show s.toArray.size = _; simp
  refine ⟨⟨?_, ?_, ?_, ?_, ?_, ?_, ?_, ?_, ?_⟩, ?_⟩
  · rw [e1, bsz]; have : (q2 l).1.length ≤ 300 := t2; omega
  · intro s hs
    rw [e3] at hs
    obtain ⟨u, hu, rfl⟩ := List.mem_map.1 hs
    rw [bsz]; have := a9 u hu; omega
  · intro s hs
    rw [e4] at hs
    obtain ⟨u, hu, rfl⟩ := List.mem_map.1 hs
    rw [bsz]; have := a10 u hu; omega
  · intro d hd
    rw [e8] at hd
    have := (d12 d hd).1; omega
  · rw [e3, List.length_map]; have : (q9 l).1.length ≤ 64 := l9; omega
  · rw [e4, List.length_map]; have : (q10 l).1.length ≤ 64 := l10; omega
  · rw [h7]; omega
  · intro x hx
    unfold nums at hx
    rw [e2, e5, e6, e7] at hx
    have m4 : 0 ≤ (q4 l).1 ∧ (q4 l).1 ≤ 9223372036854775807 := n4
    have m5 : 0 ≤ (q5 l).1 ∧ (q5 l).1 ≤ 9223372036854775807 := n5
    have m7 : 0 ≤ (q7 l).1 ∧ (q7 l).1 ≤ 9223372036854775807 := n7
    have m8 : 0 ≤ (q8 l).1 ∧ (q8 l).1 ≤ 9223372036854775807 := n8
    simp only [List.mem_cons, List.not_mem_nil, or_false] at hx
    rcases hx with rfl | rfl | rfl | rfl <;> omega
  · intro d hd
    rw [e8] at hd
    have := (d12 d hd).2; omega
  · unfold putL
    rw [x3, x1, if_neg (by simp; omega)]
/-- journal.Drop of a key. -/
def dropL (s : ByteArray) : List UInt8 := if (wText ⟨[2], 0, false⟩ s).bad = true then [] else (wText ⟨[2], 0, false⟩ s).b
theorem read_drop {l : List UInt8} (h : readOk l = true) (hk : kindL l ≠ 1) : (readE l).key.size ≤ 300 ∧ dropL (readE l).key = l := by
  have he : (readE l).key = bs (q2 l).1 := by unfold readE; rw [if_neg hk]
  have hf : readF l = q3 l := if_neg hk
  unfold readOk at h
  rw [hf, Bool.and_eq_true, Bool.and_eq_true, Bool.not_eq_true', decide_eq_true_eq, Bool.or_eq_true, decide_eq_true_eq, decide_eq_true_eq] at h
  obtain ⟨⟨hb, hl⟩, h2⟩ := h
  have hk2 : kindL l = (2 : UInt8).toNat := h2.resolve_left hk
  obtain ⟨b1, t2, s2⟩ := sync_text (sync_first hk2) hb
  have bsz : ∀ s : List UInt8, (bs s).size = s.length := fun s => by show s.toArray.size = _; simp
  rw [he, bsz]
  refine ⟨t2, ?_⟩
  obtain ⟨x1, x2, x3⟩ := s2
  have hnil : (rText (q1 l).2).2.b = [] := List.eq_nil_of_length_eq_zero hl
  rw [hnil, List.append_nil] at x1
  unfold dropL
  rw [if_neg (by rw [show (wText ⟨[2], 0, false⟩ (bs (q2 l).1)).bad = false from x3]; decide)]
  exact x1
end Go.Proofs.Ytgfkgoiaoglhnaa.jr
