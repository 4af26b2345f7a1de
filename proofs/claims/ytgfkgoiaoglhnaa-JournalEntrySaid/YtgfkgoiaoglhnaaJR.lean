/- The reader of records: what it holds, in plain words; take, num, count, text. -/
import Derived.Test.YtgfkgoiaoglhnaaProg
import Derived.WalkKit
import Derived.ProofKit
import Derived.Lib.Hide
import Derived.WalkLawsBesides
import Derived.WalkSpells
import Derived.Deep.RegionWith
import Derived.Deep.DeepCutAuto
import Derived.Deep.CutBlock
import Derived.Test.YtgfkgoiaoglhnaaJP
namespace Go.Proofs.Ytgfkgoiaoglhnaa.jr
open Go Go.RowKit
set_option linter.unusedVariables false
set_option linter.unusedSimpArgs false
/-- A reader's block. -/
def RB (W : World) (k : Nat) (v : Value) (L : Int) (bad : Bool) : Prop := W.heap[k]? = some (.cells #[v, .int .i64 L, .bool bad] 122 (0, 0))
theorem RB.c0 {W : World} {k : Nat} {v : Value} {L : Int} {bad : Bool} (h : RB W k v L bad) : W.cell? ⟨k, 0, none⟩ = some v := by simp [World.cell?, show W.heap[k]? = _ from h]
theorem RB.c1 {W : World} {k : Nat} {v : Value} {L : Int} {bad : Bool} (h : RB W k v L bad) : W.cell? ⟨k, 1, none⟩ = some (.int .i64 L) := by simp [World.cell?, show W.heap[k]? = _ from h]
theorem RB.c2 {W : World} {k : Nat} {v : Value} {L : Int} {bad : Bool} (h : RB W k v L bad) : W.cell? ⟨k, 2, none⟩ = some (.bool bad) := by simp [World.cell?, show W.heap[k]? = _ from h]
theorem RB.f {W : World} {k : Nat} {v : Value} {L : Int} {bad : Bool} (h : RB W k v L bad) (i : Nat) : W.frozen? ⟨k, i, none⟩ = false := by simp [World.frozen?, show W.heap[k]? = _ from h]
theorem RB.s0 {W : World} {k : Nat} {v : Value} {L : Int} {bad : Bool} (h : RB W k v L bad) (u : Value) : RB (W.setCell ⟨k, 0, none⟩ u) k u L bad := by simp [RB, World.setCell, Array.getElem?_modify, show W.heap[k]? = _ from h]
theorem RB.s1 {W : World} {k : Nat} {v : Value} {L : Int} {bad : Bool} (h : RB W k v L bad) (M : Int) : RB (W.setCell ⟨k, 1, none⟩ (.int .i64 M)) k v M bad := by simp [RB, World.setCell, Array.getElem?_modify, show W.heap[k]? = _ from h]
theorem RB.s2 {W : World} {k : Nat} {v : Value} {L : Int} {bad : Bool} (h : RB W k v L bad) (b : Bool) : RB (W.setCell ⟨k, 2, none⟩ (.bool b)) k v L b := by simp [RB, World.setCell, Array.getElem?_modify, show W.heap[k]? = _ from h]
/-- Only this block may have turned. -/
def KR (k : Nat) (W w : World) : Prop := W.heap.size ≤ w.heap.size ∧ ∀ i, i < W.heap.size → i ≠ k → w.heap[i]? = W.heap[i]?
theorem KR.refl (k : Nat) (W : World) : KR k W W := ⟨Nat.le_refl _, fun _ _ _ => rfl⟩
theorem KR.trans {k : Nat} {W w w' : World} (h : KR k W w) (g : KR k w w') : KR k W w' :=
  ⟨Nat.le_trans h.1 g.1, fun i hi hk => (g.2 i (Nat.lt_of_lt_of_le hi h.1) hk).trans (h.2 i hi hk)⟩
theorem KR.set (k : Nat) (W : World) (j : Nat) (v : Value) : KR k W (W.setCell ⟨k, j, none⟩ v) := by
  refine ⟨?_, fun i hi hk => ?_⟩
  · show W.heap.size ≤ (W.heap.modify _ _).size
    simp
  · show (W.heap.modify _ _)[i]? = _
    rw [Array.getElem?_modify, if_neg (fun h => hk h.symm)]
theorem KR.of_below {k : Nat} {W w : World} (h : Below W.heap.size W w) : KR k W w := ⟨h.size, fun i hi _ => h.block i hi⟩
/-- What a reader holds. -/
structure Rd where
  b : List UInt8
  L : Int
  bad : Bool
def rTake (r : Rd) (n : Nat) : List UInt8 × Rd := if r.bad = true ∨ r.b.length < n then ([], { r with bad := true }) else (r.b.take n, { r with b := r.b.drop n })
theorem rTake_no {r : Rd} {n : Nat} (h : r.bad = true ∨ r.b.length < n) : rTake r n = ([], ⟨r.b, r.L, true⟩) := if_pos h
theorem rTake_ok {r : Rd} {n : Nat} (h : r.bad = false) (h' : n ≤ r.b.length) : rTake r n = (r.b.take n, ⟨r.b.drop n, r.L, r.bad⟩) := if_neg (by rw [h]; simp; omega)
def RS (W0 W : World) (k : Nat) (r : Rd) : Prop := W0.heap.size ≤ k ∧ ∃ ad c, RB W k (.slice ad r.b.length c) r.L r.bad ∧ lb.SB W0 ad r.b c
theorem sb_take {W : World} {ad : Option Addr} {l : List UInt8} {c : Nat} (h : lb.SB W ad l c) (m : Nat) : lb.SB W ad (l.take m) c := by
  refine ⟨Nat.le_trans (by simp; omega) h.le, h.max, h.nil, ?_⟩
  rcases h.at_ with h0 | ⟨b, o, h1, h2⟩
  · subst h0; exact .inl (by simp)
  · refine .inr ⟨b, o, h1, fun j hj => ?_⟩
    simp at hj
    rw [h2 j (by omega)]
    simp [List.getD, List.getElem?_take, show j < m by omega]
theorem sb_nil (W : World) (a : Addr) (c : Nat) (hc : c ≤ 9223372036854775807) : lb.SB W (some a) [] c := ⟨Nat.zero_le _, hc, (fun h => by cases h), .inl rfl⟩
theorem sb_drop {W : World} {b o : Nat} {l : List UInt8} {c : Nat} (h : lb.SB W (some ⟨b, o, none⟩) l c) (m : Nat) (hm : m ≤ l.length) (hne : l ≠ []) : lb.SB W (some ⟨b, o + m, none⟩) (l.drop m) (c - m) := by
  refine ⟨by have := h.le; simp; omega, by have := h.max; omega, (fun h => by cases h), ?_⟩
  rcases h.at_ with h0 | ⟨b', o', h1, h2⟩
  · exact absurd h0 hne
  · cases h1
    refine .inr ⟨b, o + m, rfl, fun j hj => ?_⟩
    simp at hj
    rw [show o + m + j = o + (m + j) by omega, h2 (m + j) (by omega)]
    simp [List.getD, List.getElem?_drop]
set_option maxRecDepth 100000 in
set_option maxHeartbeats 4000000 in
theorem take_rs (W W0 : World) (k n : Nat) (r : Rd) (hn : n ≤ 100000) (hb : Below W0.heap.size W0 W) (h : RS W0 W k r) :
    Calls Try.prog 60 #[.pointer (some ⟨k, 0, none⟩), .int .i64 (n : Int)] W fun e w' => ∃ ad c, e = .returned (.slice ad (rTake r n).1.length c) ∧ lb.SB W0 ad (rTake r n).1 c ∧ RS W0 w' k (rTake r n).2 ∧ Below W0.heap.size W0 w' ∧ KR k W w' := by
  obtain ⟨hk, ad, c, h1, h2⟩ := h
  have H1 := Lib.hid h1
  have H2 := Lib.hid h2
  have HB := Lib.hid hb
  have c0 := h1.c0
  have c2 := h1.c2
  have f0 := h1.f 0
  have f2 := h1.f 2
  have hle := h2.le
  have hmx := h2.max
  clear h1 h2 hb
  obtain ⟨m, hm⟩ : ∃ m, r.b.length = m := ⟨_, rfl⟩
  have HM := Lib.hid hm
  rw [hm] at c0 hle
  rcases (show (r.bad = true ∨ m < n) ∨ (r.bad = false ∧ n ≤ m) by cases r.bad <;> simp <;> omega) with hx | ⟨hx, hx'⟩
  · rw [rTake_no (by rw [hm]; exact hx)]
    have FIN : Hid (∀ w, w = W.setCell ⟨k, 2, none⟩ (.bool true) → RS W0 w k ⟨r.b, r.L, true⟩ ∧ Below W0.heap.size W0 w ∧ KR k W w) := Lib.hid (fun w hw => by subst hw; exact ⟨⟨hk, ad, c, H1.out.s2 true, H2.out⟩, HB.out.setCell hk _, KR.set _ _ _ _⟩)
    clear hm
    cases hbad : r.bad
    · have hlt : m < n := by rcases hx with h | h; · rw [hbad] at h; cases h
                             · exact h
      rw [hbad] at c2
      clear hx hbad
      go_enter Try.func60, Try.ntmps60
      go_wp2
      go_ret
      exact ⟨none, 0, rfl, lb.SB.none _, FIN.out _ rfl⟩
    · rw [hbad] at c2
      clear hx hbad
      go_enter Try.func60, Try.ntmps60
      go_wp2
      go_ret
      exact ⟨none, 0, rfl, lb.SB.none _, FIN.out _ rfl⟩
  · rw [rTake_ok hx (by rw [hm]; exact hx'), show (r.b.take n).length = n by simp; omega]
    rw [hx] at c2 H1
    have hdl : (r.b.drop n).length = m - n := by simp; omega
    have FIN : Hid (∀ w a' c', w = W.setCell ⟨k, 0, none⟩ (.slice a' (m - n) c') → lb.SB W0 a' (r.b.drop n) c' → RS W0 w k ⟨r.b.drop n, r.L, r.bad⟩ ∧ Below W0.heap.size W0 w ∧ KR k W w) := Lib.hid (fun w a' c' hw hs => by subst hw; exact ⟨⟨hk, a', c', by show RB _ k (.slice a' (r.b.drop n).length c') r.L r.bad; rw [hdl, hx]; exact H1.out.s0 _, hs⟩, HB.out.setCell hk _, KR.set _ _ _ _⟩)
    have HD := Lib.hid hdl
    have HTK := Lib.hid (sb_take H2.out n)
    clear hm hdl hx
    have hnc : n ≤ c := by omega
    cases ad with
    | none =>
      have hc0 := H2.out.nil rfl
      subst hc0
      obtain rfl : m = 0 := by omega
      obtain rfl : n = 0 := by omega
      have hnil : r.b = [] := List.eq_nil_of_length_eq_zero HM.out
      have F := Lib.hid (FIN.out _ none 0 rfl (by rw [hnil]; exact lb.SB.none _))
      clear hnil FIN
      go_enter Try.func60, Try.ntmps60
      go_wp2
      go_ret
      exact ⟨none, 0, rfl, HTK.out, F.out⟩
    | some a =>
      by_cases hcn : c = n
      · obtain rfl : n = m := by omega
        subst hcn
        have hnil : r.b.drop c = [] := List.drop_eq_nil_of_le (by rw [HM.out]; exact Nat.le_refl _)
        have F := Lib.hid (FIN.out _ (some a) 0 rfl (by rw [hnil]; exact sb_nil _ _ _ (by omega)))
        simp only [Nat.sub_self] at F
        clear hnil FIN
        go_enter Try.func60, Try.ntmps60
        go_wp2
        go_ret
        exact ⟨some a, c, rfl, HTK.out, F.out⟩
      · rcases H2.out.at_ with h0 | ⟨b, o, ha, hcc⟩
        · obtain rfl : m = 0 := by rw [← HM.out, h0]; rfl
          obtain rfl : n = 0 := by omega
          have F := Lib.hid (fun a' c' (hc' : c' ≤ 9223372036854775807) => FIN.out _ (some a') c' rfl (by rw [h0]; exact sb_nil _ _ _ hc'))
          clear h0 FIN
          go_enter Try.func60, Try.ntmps60
          go_wp2
          go_ret
          exact ⟨some a, c, rfl, HTK.out, F.out _ _ (by omega)⟩
        · cases ha
          rcases Nat.eq_zero_or_pos m with h0 | h0
          · subst h0
            obtain rfl : n = 0 := by omega
            have hnil : r.b = [] := List.eq_nil_of_length_eq_zero HM.out
            have F := Lib.hid (fun a' c' (hc' : c' ≤ 9223372036854775807) => FIN.out _ (some a') c' rfl (by rw [hnil]; exact sb_nil _ _ _ hc'))
            clear hnil FIN hcc
            go_enter Try.func60, Try.ntmps60
            go_wp2
            go_ret
            exact ⟨_, c, rfl, HTK.out, F.out _ _ (by omega)⟩
          · have F := Lib.hid (FIN.out _ (some ⟨b, o + n, none⟩) (c - n) rfl (sb_drop H2.out n (by rw [HM.out]; exact hx') (by intro h; have := HM.out; rw [h] at this; simp at this; omega)))
            clear FIN hcc
            go_enter Try.func60, Try.ntmps60
            go_wp2
            go_ret
            exact ⟨_, c, rfl, HTK.out, F.out⟩
def s64 (n : Nat) : Int := if n < 9223372036854775808 then (n : Int) else (n : Int) - 18446744073709551616
def rNum (r : Rd) : Int × Rd := (s64 (leN (rTake r 8).1), ⟨(rTake r 8).2.b, (rTake r 8).2.L, (rTake r 8).2.bad || decide (s64 (leN (rTake r 8).1) < 0)⟩)
def rCount (r : Rd) : Nat × Rd := (leN (rTake r 1).1, ⟨(rTake r 1).2.b, (rTake r 1).2.L, (rTake r 1).2.bad || decide (64 < leN (rTake r 1).1)⟩)
def rHead (r : Rd) : Nat × Rd := (leN (rTake r 2).1, ⟨(rTake r 2).2.b, (rTake r 2).2.L + (leN (rTake r 2).1 : Int), (rTake r 2).2.bad || decide (300 < leN (rTake r 2).1) || decide (6000 < (rTake r 2).2.L + (leN (rTake r 2).1 : Int))⟩)
def rText (r : Rd) : List UInt8 × Rd := rTake (rHead r).2 (rHead r).1
theorem rTake_len (r : Rd) (n : Nat) : (rTake r n).1.length ≤ n := by
  unfold rTake
  split
  · exact Nat.zero_le _
  · simp; omega
theorem leN_le (l : List UInt8) (n : Nat) (h : l.length ≤ n) : leN l < 256 ^ n := Nat.lt_of_lt_of_le (leN_lt l) (Nat.pow_le_pow_right (by omega) h)
theorem rs_facts {W0 W : World} {k : Nat} {r : Rd} (h : RS W0 W k r) : W0.heap.size ≤ k ∧ W.cell? ⟨k, 1, none⟩ = some (.int .i64 r.L) ∧ W.cell? ⟨k, 2, none⟩ = some (.bool r.bad) ∧ (∀ i, W.frozen? ⟨k, i, none⟩ = false) := by
  obtain ⟨h0, ad, c, h1, h2⟩ := h
  exact ⟨h0, h1.c1, h1.c2, h1.f⟩
theorem rs_bad {W0 W : World} {k : Nat} {r : Rd} (h : RS W0 W k r) (b : Bool) : RS W0 (W.setCell ⟨k, 2, none⟩ (.bool b)) k ⟨r.b, r.L, b⟩ := by
  obtain ⟨h0, ad, c, h1, h2⟩ := h
  exact ⟨h0, ad, c, h1.s2 b, h2⟩
theorem rs_long {W0 W : World} {k : Nat} {r : Rd} (h : RS W0 W k r) (L : Int) : RS W0 (W.setCell ⟨k, 1, none⟩ (.int .i64 L)) k ⟨r.b, L, r.bad⟩ := by
  obtain ⟨h0, ad, c, h1, h2⟩ := h
  exact ⟨h0, ad, c, h1.s1 L, h2⟩
set_option maxRecDepth 100000 in
set_option maxHeartbeats 4000000 in
theorem num_rs (W W0 : World) (k : Nat) (r : Rd) (hb : Below W0.heap.size W0 W) (h : RS W0 W k r) :
    Calls Try.prog 62 #[.pointer (some ⟨k, 0, none⟩)] W fun e w' => e = .returned (.int .i64 (rNum r).1) ∧ RS W0 w' k (rNum r).2 ∧ Below W0.heap.size W0 w' ∧ KR k W w' := by
  have HT := Lib.hid (take_rs W W0 k 8 r (by omega) hb h)
  obtain ⟨l, hl⟩ : ∃ l, (rTake r 8).1 = l := ⟨_, rfl⟩
  obtain ⟨r1, hr1⟩ : ∃ r1, (rTake r 8).2 = r1 := ⟨_, rfl⟩
  have hll : l.length ≤ 8 := hl ▸ rTake_len r 8
  have hX := leN_le l 8 hll
  have hR : rNum r = (s64 (leN l), ⟨r1.b, r1.L, r1.bad || decide (s64 (leN l) < 0)⟩) := by unfold rNum; rw [hl, hr1]
  rw [hR]
  rw [hl, hr1] at HT
  clear hb h hR hl hr1
  obtain ⟨X, hXe⟩ : ∃ X, leN l = X := ⟨_, rfl⟩
  have HXE := Lib.hid hXe
  rw [hXe] at hX ⊢
  obtain ⟨x, hx⟩ : ∃ x, s64 X = x := ⟨_, rfl⟩
  have hw : IntKind.i64.wrap (X : Int) = x := by
    rw [← hx]
    unfold s64
    split <;> simp [IntKind.wrap, IntKind.signed, IntKind.bits] <;> omega
  rw [hx]
  clear hx hXe
  go_enter Try.func62, Try.ntmps62
  go_upto_region 2 with (first
    | (go_at_call 60; refine HT.out.mono ?_; rintro e w1 ⟨a1, c1, rfl, hs1, h1, hb1, hk1⟩; have HS1 := Lib.hid hs1; have H1 := Lib.hid h1; have HB1 := Lib.hid hb1; have HK1 := Lib.hid hk1; clear hs1 h1 hb1 hk1)
    | (go_at_call 59; refine (get_calls a1 c1 l w1 (HS1.out.below HB1.out) hll).mono ?_; rintro e w2 ⟨rfl, hw2⟩; obtain rfl := hw2; rw [HXE.out])
    | fail)
  obtain ⟨hk0, _, c2, hf⟩ := rs_facts H1.out
  have f2 := hf 2
  clear hf
  obtain ⟨rb, rL, rbad⟩ := r1
  simp only at c2 H1 ⊢
  go_cut [18] (fun bv wx => RS W0 wx k ⟨rb, rL, rbad || decide (x < 0)⟩ ∧ Below W0.heap.size W0 wx ∧ KR k W wx)
  case first =>
    have hk3 : KR k W (w1.setCell ⟨k, 2, none⟩ (.bool true)) ∧ KR k W (w1.setCell ⟨k, 2, none⟩ (.bool false)) := ⟨HK1.out.trans (KR.set _ _ _ _), HK1.out.trans (KR.set _ _ _ _)⟩
    have HK3 := Lib.hid hk3
    clear hk3
    generalize hb1 : decide (x < 0) = b1
    cases b1 <;> cases rbad
    all_goals
      go_wp2_with fail
      go_meet
      rw [hb1]
      first | exact ⟨rs_bad H1.out true, HB1.out.setCell hk0 _, HK3.out.1⟩ | exact ⟨rs_bad H1.out false, HB1.out.setCell hk0 _, HK3.out.2⟩
  case rest =>
    have HC := Lib.hid hcut
    clear hcut
    go_wp2_with fail
    go_ret
    exact ⟨rfl, HC.out⟩
set_option maxRecDepth 100000 in
set_option maxHeartbeats 4000000 in
theorem count_rs (W W0 : World) (k : Nat) (r : Rd) (hb : Below W0.heap.size W0 W) (h : RS W0 W k r) :
    Calls Try.prog 64 #[.pointer (some ⟨k, 0, none⟩)] W fun e w' => e = .returned (.int .i64 ((rCount r).1 : Int)) ∧ RS W0 w' k (rCount r).2 ∧ Below W0.heap.size W0 w' ∧ KR k W w' := by
  have HT := Lib.hid (take_rs W W0 k 1 r (by omega) hb h)
  obtain ⟨l, hl⟩ : ∃ l, (rTake r 1).1 = l := ⟨_, rfl⟩
  obtain ⟨r1, hr1⟩ : ∃ r1, (rTake r 1).2 = r1 := ⟨_, rfl⟩
  have hll : l.length ≤ 1 := hl ▸ rTake_len r 1
  have hX := leN_le l 1 hll
  have hR : rCount r = (leN l, ⟨r1.b, r1.L, r1.bad || decide (64 < leN l)⟩) := by unfold rCount; rw [hl, hr1]
  rw [hR]
  rw [hl, hr1] at HT
  clear hb h hR hl hr1
  obtain ⟨X, hXe⟩ : ∃ X, leN l = X := ⟨_, rfl⟩
  have HXE := Lib.hid hXe
  rw [hXe] at hX ⊢
  have hX2 : X < 256 := by simpa using hX
  clear hXe hX
  go_enter Try.func64, Try.ntmps64
  go_upto_region 2 with (first
    | (go_at_call 60; refine HT.out.mono ?_; rintro e w1 ⟨a1, c1, rfl, hs1, h1, hb1, hk1⟩; have HS1 := Lib.hid hs1; have H1 := Lib.hid h1; have HB1 := Lib.hid hb1; have HK1 := Lib.hid hk1; clear hs1 h1 hb1 hk1)
    | (go_at_call 59; refine (get_calls a1 c1 l w1 (HS1.out.below HB1.out) (by omega)).mono ?_; rintro e w2 ⟨rfl, hw2⟩; obtain rfl := hw2; rw [HXE.out])
    | fail)
  obtain ⟨hk0, _, c2, hf⟩ := rs_facts H1.out
  have f2 := hf 2
  clear hf
  obtain ⟨rb, rL, rbad⟩ := r1
  simp only at c2 H1 ⊢
  go_cut [18] (fun bv wx => RS W0 wx k ⟨rb, rL, rbad || decide (64 < X)⟩ ∧ Below W0.heap.size W0 wx ∧ KR k W wx)
  case first =>
    have hk3 : KR k W (w1.setCell ⟨k, 2, none⟩ (.bool true)) ∧ KR k W (w1.setCell ⟨k, 2, none⟩ (.bool false)) := ⟨HK1.out.trans (KR.set _ _ _ _), HK1.out.trans (KR.set _ _ _ _)⟩
    have HK3 := Lib.hid hk3
    clear hk3
    generalize hb1 : decide (64 < X) = b1
    have hb2 : decide ((64 : Int) < (X : Int)) = b1 := by rw [← hb1, decide_eq_decide]; omega
    cases b1 <;> cases rbad
    all_goals
      go_wp2_with fail
      go_meet
      rw [hb1]
      first | exact ⟨rs_bad H1.out true, HB1.out.setCell hk0 _, HK3.out.1⟩ | exact ⟨rs_bad H1.out false, HB1.out.setCell hk0 _, HK3.out.2⟩
  case rest =>
    have HC := Lib.hid hcut
    clear hcut
    go_wp2_with fail
    go_ret
    exact ⟨rfl, HC.out⟩
theorem conv_sb {w : World} {ad : Option Addr} {n c : Nat} {l : List UInt8} (h : lb.SB w ad l c) (hn : l.length = n) :
    (convert 51 9 (.slice ad n c)).run Try.prog w = .ok (lb.sV l) w := by
  subst hn
  cases ad with
  | none =>
    have := h.nil rfl
    have := h.le
    obtain rfl : l = [] := List.eq_nil_of_length_eq_zero (by omega)
    subst_vars
    exact run_convert_bytes_string (P := Try.prog) w 51 9 5 none 0 0 Try.underlying51 Try.underlying5 Try.underlying9
  | some a =>
    refine run_convert_bytes_back (P := Try.prog) w 51 9 5 a c l Try.underlying51 Try.underlying5 Try.underlying9 (fun j hj => ?_)
    rcases h.at_ with h0 | ⟨b, o, he, hc⟩
    · subst h0; simp at hj
    · cases he
      rw [lb.add_flat, hc j hj]
      simp [List.getD, hj]
set_option maxRecDepth 100000 in
set_option maxHeartbeats 4000000 in
theorem rtext_rs (W W0 : World) (k : Nat) (r : Rd) (hL : 0 ≤ r.L ∧ r.L ≤ 100000000) (hb : Below W0.heap.size W0 W) (h : RS W0 W k r) :
    Calls Try.prog 61 #[.pointer (some ⟨k, 0, none⟩)] W fun e w' => e = .returned (lb.sV (rText r).1) ∧ RS W0 w' k (rText r).2 ∧ Below W0.heap.size W0 w' ∧ KR k W w' := by
  have HT := Lib.hid (take_rs W W0 k 2 r (by omega) hb h)
  have hLL : (rTake r 2).2.L = r.L := by unfold rTake; split <;> rfl
  obtain ⟨l, hl⟩ : ∃ l, (rTake r 2).1 = l := ⟨_, rfl⟩
  obtain ⟨r1, hr1⟩ : ∃ r1, (rTake r 2).2 = r1 := ⟨_, rfl⟩
  have hll : l.length ≤ 2 := hl ▸ rTake_len r 2
  have hX := leN_le l 2 hll
  have hR : rHead r = (leN l, ⟨r1.b, r1.L + (leN l : Int), r1.bad || decide (300 < leN l) || decide (6000 < r1.L + (leN l : Int))⟩) := by unfold rHead; rw [hl, hr1]
  unfold rText
  rw [hR]
  rw [hl, hr1] at HT
  rw [hr1] at hLL
  clear hb h hR hl hr1
  obtain ⟨X, hXe⟩ : ∃ X, leN l = X := ⟨_, rfl⟩
  have HXE := Lib.hid hXe
  rw [hXe] at hX ⊢
  have hX2 : X < 65536 := by simpa using hX
  clear hXe hX
  go_enter Try.func61, Try.ntmps61
  go_upto_region 2 with (first
    | (go_at_call 60; refine HT.out.mono ?_; rintro e w1 ⟨a1, c1, rfl, hs1, h1, hb1, hk1⟩; have HS1 := Lib.hid hs1; have H1 := Lib.hid h1; have HB1 := Lib.hid hb1; have HK1 := Lib.hid hk1; clear hs1 h1 hb1 hk1)
    | (go_at_call 59; refine (get_calls a1 c1 l w1 (HS1.out.below HB1.out) (by omega)).mono ?_; rintro e w2 ⟨rfl, hw2⟩; obtain rfl := hw2; rw [HXE.out])
    | fail)
  obtain ⟨hk0, c1', c2, hf⟩ := rs_facts H1.out
  have f1 := hf 1
  clear hf c2
  obtain ⟨rb, rL, rbad⟩ := r1
  simp only at c1' H1 hLL ⊢
  subst hLL
  go_cut [13] (fun bv wx => RS W0 wx k ⟨rb, r.L + (X : Int), rbad⟩ ∧ Below W0.heap.size W0 wx ∧ KR k W wx)
  case first =>
    have hk3 : KR k W (w1.setCell ⟨k, 1, none⟩ (.int .i64 (r.L + (X : Int)))) := HK1.out.trans (KR.set _ _ _ _)
    have HK3 := Lib.hid hk3
    clear hk3
    go_wp2_with fail
    go_meet
    exact ⟨rs_long H1.out _, HB1.out.setCell hk0 _, HK3.out⟩
  case rest =>
    obtain ⟨g1, g2, g3⟩ := hcut
    obtain ⟨_, c1', c2, hf⟩ := rs_facts g1
    have f2 := hf 2
    have G1 := Lib.hid g1
    have G2 := Lib.hid g2
    have G3 := Lib.hid g3
    clear g1 g2 g3 hf f1
    simp only at c1' c2
    go_upto_region 3 with fail
    go_cut [31] (fun bv wx => RS W0 wx k ⟨rb, r.L + (X : Int), rbad || decide (300 < X) || decide (6000 < r.L + (X : Int))⟩ ∧ Below W0.heap.size W0 wx ∧ KR k W wx)
    case first =>
      have hk3 : KR k W (wc.setCell ⟨k, 2, none⟩ (.bool true)) ∧ KR k W (wc.setCell ⟨k, 2, none⟩ (.bool false)) := ⟨G3.out.trans (KR.set _ _ _ _), G3.out.trans (KR.set _ _ _ _)⟩
      have HK3 := Lib.hid hk3
      clear hk3
      generalize hb1 : decide (300 < X) = b1
      generalize hb2 : decide (6000 < r.L + (X : Int)) = b2
      have hb3 : decide ((300 : Int) < (X : Int)) = b1 := by rw [← hb1, decide_eq_decide]; omega
      cases b1 <;> cases b2 <;> cases rbad
      all_goals
        go_wp2_with fail
        go_meet
        rw [hb1, hb2]
        first | exact ⟨rs_bad G1.out true, G2.out.setCell hk0 _, HK3.out.1⟩ | exact ⟨rs_bad G1.out false, G2.out.setCell hk0 _, HK3.out.2⟩
    case rest =>
      obtain ⟨g1, g2, g3⟩ := hcut
      have HT2 := Lib.hid (take_rs wc W0 k X _ (by omega) g2 g1)
      have G3 := Lib.hid g3
      clear g1 g2 g3 c1' c2 f2 G1
      generalize htk : rTake ⟨rb, r.L + (X : Int), rbad || decide (300 < X) || decide (6000 < r.L + (X : Int))⟩ X = tk at HT2 ⊢
      obtain ⟨l5, r5⟩ := tk
      have HTK := Lib.hid htk
      clear htk
      simp only at HT2 ⊢
      obtain ⟨n5, hn5⟩ : ∃ n5, l5.length = n5 := ⟨_, rfl⟩
      rw [hn5] at HT2
      go_wp2_with (first
        | (go_at_call 60; refine HT2.out.mono ?_; rintro e w5 ⟨a5, c5, rfl, hs5, h5, hb5, hk5⟩; have hcv := conv_sb (hs5.below hb5) hn5; have H5 := Lib.hid h5; have HB5 := Lib.hid hb5; have HK5 := Lib.hid hk5; clear hs5 h5 hb5 hk5)
        | fail)
      go_ret
      rw [HTK.out]
      exact ⟨rfl, H5.out, HB5.out, G3.out.trans HK5.out⟩
end Go.Proofs.Ytgfkgoiaoglhnaa.jr
