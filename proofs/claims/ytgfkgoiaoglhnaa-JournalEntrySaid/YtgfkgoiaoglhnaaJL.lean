/- The reader of records: list. -/
import Derived.Test.YtgfkgoiaoglhnaaProg
import Derived.WalkKit
import Derived.ProofKit
import Derived.Lib.Hide
import Derived.WalkLawsBesides
import Derived.WalkSpells
import Derived.Deep.RegionWith
import Derived.Deep.DeepCutAuto
import Derived.Deep.CutBlock
import Derived.Test.YtgfkgoiaoglhnaaJR
namespace Go.Proofs.Ytgfkgoiaoglhnaa.jr
open Go Go.RowKit
set_option linter.unusedVariables false
set_option linter.unusedSimpArgs false
set_option maxRecDepth 100000 in
theorem info_str : (Try.prog.info? 9).map (fun i => (i.zero, i.size, i.bytes)) = some (some (.string ⟨#[]⟩), 1, 16) := by kernel_rfl
def rGo : Nat → Rd → List (List UInt8) × Rd
  | 0, r => ([], r)
  | n + 1, r => if r.bad = true then ([], r) else ((rText r).1 :: (rGo n (rText r).2).1, (rGo n (rText r).2).2)
def rList (r : Rd) : List (List UInt8) × Rd := rGo (rCount r).1 (rCount r).2
theorem KR.of_grown {k : Nat} {W w w' : World} {B e s n : Nat} {v : Value} {xs : List Value} (h : KR k W w) (hown : w.ownsRow B e s v n xs) (hB : W.heap.size ≤ B) (hg : w.grownBy w' v.ownBlock) : KR k W w' :=
  ⟨Nat.le_trans h.1 hg.size, fun i hi hk => (hg.block i (Nat.lt_of_lt_of_le hi h.1) (fun hb => by have := (lb.own_block hown i hb.symm).1; omega)).trans (h.2 i hi hk)⟩
/-- A row of the call's own stands while only the reader's block turns. -/
theorem KR.own {k : Nat} {W w : World} (h : KR k W w) {B e s n : Nat} {v : Value} {xs : List Value} {v0 : Value} {L : Int} {bad : Bool} (hk : RB W k v0 L bad) (he : e ≠ 122) (ho : W.ownsRow B e s v n xs) : w.ownsRow B e s v n xs := by
  refine ⟨ho.1, ?_⟩
  rcases ho.2 with hn | ⟨g, cap, cur, hv, hb, hg, rest⟩
  · exact .inl hn
  · refine .inr ⟨g, cap, cur, hv, hb, ?_, rest⟩
    rw [h.2 g (Array.getElem?_eq_some_iff.1 hg).1 (fun hgk => by subst hgk; rw [RB, hg] at hk; cases hk; exact he rfl), hg]
theorem RB.grown {w w' : World} {k : Nat} {v u : Value} {L : Int} {bad : Bool} {B e s n : Nat} {xs : List Value} (h : RB w k v L bad) (hown : w.ownsRow B e s u n xs) (hk : k < B) (hg : w.grownBy w' u.ownBlock) : RB w' k v L bad := by
  have hlt : k < w.heap.size := (Array.getElem?_eq_some_iff.1 h).1
  rw [RB, hg.block k hlt (fun hb => by have := (lb.own_block hown k hb.symm).1; omega)]
  exact h
theorem RS.grown {W0 w w' : World} {k : Nat} {r : Rd} {u : Value} {B e s n : Nat} {xs : List Value} (h : RS W0 w k r) (hown : w.ownsRow B e s u n xs) (hk : k < B) (hg : w.grownBy w' u.ownBlock) : RS W0 w' k r := by
  obtain ⟨h0, ad, c, h1, h2⟩ := h
  exact ⟨h0, ad, c, h1.grown hown hk hg, h2⟩
theorem RS.lt {W0 w : World} {k : Nat} {r : Rd} (h : RS W0 w k r) : k < w.heap.size := by
  obtain ⟨h0, ad, c, h1, h2⟩ := h
  exact (Array.getElem?_eq_some_iff.1 h1).1
theorem RS.rb {W0 w : World} {k : Nat} {r : Rd} (h : RS W0 w k r) : ∃ v L bad, RB w k v L bad := by
  obtain ⟨h0, ad, c, h1, h2⟩ := h
  exact ⟨_, _, _, h1⟩
theorem rText_L (r : Rd) (h : 0 ≤ r.L) : 0 ≤ (rText r).2.L ∧ (rText r).2.L ≤ r.L + 65535 := by
  have hX := leN_le (rTake r 2).1 2 (rTake_len r 2)
  have hLL : (rTake r 2).2.L = r.L := by unfold rTake; split <;> rfl
  have hL2 : (rText r).2.L = r.L + (leN (rTake r 2).1 : Int) := by
    unfold rText
    have : ∀ q n, (rTake q n).2.L = q.L := fun q n => by unfold rTake; split <;> rfl
    rw [this]
    show (rTake r 2).2.L + _ = _
    rw [hLL]
  rw [hL2]
  have : (256 : Nat) ^ 2 = 65536 := rfl
  omega
theorem rCount_L (r : Rd) : (rCount r).2.L = r.L := by
  show (rTake r 1).2.L = r.L
  unfold rTake; split <;> rfl
theorem rCount_lt (r : Rd) : (rCount r).1 < 256 := by
  have := leN_le (rTake r 1).1 1 (rTake_len r 1)
  show leN (rTake r 1).1 < 256
  simpa using this
set_option maxRecDepth 100000 in
set_option maxHeartbeats 4000000 in
theorem rlist_rs (W W0 : World) (k : Nat) (r : Rd) (hL : 0 ≤ r.L ∧ r.L ≤ 50000000) (hb : Below W0.heap.size W0 W) (h : RS W0 W k r) :
    Calls Try.prog 63 #[.pointer (some ⟨k, 0, none⟩)] W fun e w' => ∃ v, e = .returned v ∧ w'.ownsRow W.heap.size 9 1 v (rList r).1.length ((rList r).1.map lb.sV) ∧ (rList r).1.length ≤ 255 ∧ RS W0 w' k (rList r).2 ∧ 0 ≤ (rList r).2.L ∧ (rList r).2.L ≤ r.L + 17000000 ∧ Below W0.heap.size W0 w' ∧ KR k W w' := by
  obtain ⟨i1, hj, hy0, hy1, hy2⟩ := info_parts info_str
  have HT := Lib.hid (count_rs W W0 k r hb h)
  have hkW := h.lt
  have hcL := rCount_L r
  have hcN := rCount_lt r
  have hR : rList r = rGo (rCount r).1 (rCount r).2 := rfl
  rw [hR]
  clear hR h hb
  generalize rCount r = rc at HT hcL hcN ⊢
  obtain ⟨N, r1⟩ := rc
  simp only at HT hcL hcN ⊢
  go_enter Try.func63, Try.ntmps63
  go_wp2_with (first
    | (go_at_call 64; refine HT.out.mono ?_; rintro e w1 ⟨rfl, h1, hb1, hk1⟩; have H1 := Lib.hid h1; have HB1 := Lib.hid hb1; have HK1 := Lib.hid hk1; clear h1 hb1 hk1)
    | fail)
  go_loopw [3, 6] (fun lv iv wr => ∃ (j : Nat) (acc : List (List UInt8)) (r' : Rd), j ≤ N ∧ acc.length ≤ j ∧ iv = .int .i64 (j : Int) ∧ wr.ownsRow W.heap.size 9 1 lv acc.length (acc.map lb.sV) ∧ RS W0 wr k r' ∧ 0 ≤ r'.L ∧ r'.L ≤ r.L + 65535 * j ∧ Below W0.heap.size W0 wr ∧ KR k W wr ∧ rGo N r1 = (acc ++ (rGo (N - j) r').1, (rGo (N - j) r').2)) (fun _ iv _ => N - (intOf iv).toNat)
  case atStart => exact ⟨0, [], r1, by omega, by simp, rfl, lb.own_nil _ _ _ _, H1.out, by omega, by omega, HB1.out, HK1.out, by simp⟩
  case round =>
    obtain ⟨j, acc, r', hj1, hacc, rfl, ho, hrs, hL1, hL2, hb, hkr, hgo⟩ := hrel
    obtain ⟨al, cl, rfl⟩ := lb.own_shape ho
    obtain ⟨_, _, c2, _⟩ := rs_facts hrs
    have HO := Lib.hid ho
    have HRS := Lib.hid hrs
    have HBR := Lib.hid hb
    have HKR := Lib.hid hkr
    have HGO := Lib.hid hgo
    clear ho hrs hb hkr hgo
    rcases (show j < N ∨ j = N by omega) with hlt | rfl
    · cases hbad : r'.bad
      · rw [hbad] at c2
        have hstep : rGo (N - j) r' = ((rText r').1 :: (rGo (N - (j + 1)) (rText r').2).1, (rGo (N - (j + 1)) (rText r').2).2) := by
          rw [show N - j = (N - (j + 1)) + 1 by omega, rGo, if_neg (by rw [hbad]; decide)]
        have hgo2 : rGo N r1 = ((acc ++ [(rText r').1]) ++ (rGo (N - (j + 1)) (rText r').2).1, (rGo (N - (j + 1)) (rText r').2).2) := by
          rw [HGO.out, hstep]; simp
        have HGO2 := Lib.hid hgo2
        have hl2 := rText_L r' hL1
        have HTX := Lib.hid (rtext_rs wr W0 k r' ⟨hL1, by omega⟩ HBR.out HRS.out)
        clear hstep hgo2 hbad HGO
        generalize rText r' = tx at HTX HGO2 hl2
        obtain ⟨s, r2⟩ := tx
        simp only at HTX HGO2 hl2
        have hwsz : W.heap.size ≤ wr.heap.size := HKR.out.1
        obtain ⟨q0, q1, q2, hrb⟩ := HRS.out.rb
        go_wp2_with (first
          | (go_at_call 61; refine HTX.out.mono ?_; rintro e w2 ⟨rfl, h2, hb2, hk2⟩; have H2 := Lib.hid h2; have HB2 := Lib.hid hb2; have HO2 := Lib.hid (hk2.own hrb (by decide) HO.out); have HK2 := Lib.hid (HKR.out.trans hk2); have hws2 : W.heap.size ≤ w2.heap.size := Nat.le_trans hwsz hk2.1; clear h2 hb2 hk2)
          | (at_builtin; refine lb.app1g rfl (.tmp 12) (.tmp 15) 34 rfl 9 i1 (.string ⟨#[]⟩) 1 16 Try.underlying34 hj hy0 hy1 hy2 rfl (by decide) W.heap.size w2 (.slice al acc.length cl) acc.length (acc.map lb.sV) [lb.sV s] rfl HO2.out hws2 rfl rfl (by intro u hu; simp at hu; subst hu; rfl) (by omega) (by omega) ?_; intro v3 w3 ho3 hg3; have HO3 := Lib.hid ho3; have HG3 := Lib.hid hg3; clear ho3 hg3)
          | fail)
        refine ⟨⟨j + 1, acc ++ [s], r2, by omega, by simp; omega, by go_num, ?_, H2.out.grown HO2.out hkW HG3.out, hl2.1, by omega, lb.grown_below HB2.out HO2.out (by have := HRS.out.1; omega) HG3.out, HK2.out.of_grown HO2.out (Nat.le_refl _) HG3.out, HGO2.out⟩, by simp [intOf]; omega⟩
        have := HO3.out
        simpa using this
      · rw [hbad] at c2
        have hstep : rGo (N - j) r' = ([], r') := by
          rw [show N - j = (N - (j + 1)) + 1 by omega, rGo, if_pos hbad]
        have hgo2 : rGo N r1 = (acc, r') := by rw [HGO.out, hstep]; simp
        have HG2 := Lib.hid hgo2
        clear hstep hgo2 hbad HGO
        go_wp2
        go_ret
        rw [HG2.out]
        exact ⟨_, rfl, HO.out, by show acc.length ≤ 255; omega, HRS.out, hL1, by show r'.L ≤ _; omega, HBR.out, HKR.out⟩
    · have hgo2 : rGo j r1 = (acc, r') := by rw [HGO.out, Nat.sub_self]; simp [rGo]
      have HG2 := Lib.hid hgo2
      clear hgo2 HGO
      go_wp2
      go_ret
      rw [HG2.out]
      exact ⟨_, rfl, HO.out, by show acc.length ≤ 255; omega, HRS.out, hL1, by show r'.L ≤ _; omega, HBR.out, HKR.out⟩
end Go.Proofs.Ytgfkgoiaoglhnaa.jr
