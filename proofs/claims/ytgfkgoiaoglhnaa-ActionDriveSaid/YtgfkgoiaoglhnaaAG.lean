/- The walk of the law ActionTable. -/
import Derived.Test.YtgfkgoiaoglhnaaProg
import Derived.WalkKit
import Derived.ProofKit
import Derived.Lib.Hide
import Derived.WalkLawsBesides
import Derived.WalkSpells
import Derived.Deep.RegionWith
import Derived.Deep.QuietTactic
import Derived.BigQuiet
import Derived.Deep.DeepCutAuto
import Derived.Deep.CutBlock
import Derived.Test.YtgfkgoiaoglhnaaAC
import Derived.Test.YtgfkgoiaoglhnaaAF
import Derived.Test.YtgfkgoiaoglhnaaBA
namespace Go.Proofs.Ytgfkgoiaoglhnaa.ac
open Go Go.RowKit Go.ChangeShapes Go.WideShapes
set_option linter.unusedVariables false
set_option linter.unusedSimpArgs false
theorem idx_nextV {S : List ST} {k : Nat} {c : Int} (h : k < S.length) (hg : (S[k]).act (idx c) ≠ 1 ∧ k + 1 < S.length) : nextV S (k : Int) c = ((S[k]).act (idx c), (k : Int) + 1, true) := by
  rw [nextV_in h]
  have : nxt S.length k ((S[k]).act (idx c)) = (k : Int) + 1 := by unfold nxt; rw [if_pos hg]
  rw [this, decide_eq_true (by omega)]
theorem idx_nextV0 {S : List ST} {k : Nat} {c : Int} (h : k < S.length) (hg : ¬ ((S[k]).act (idx c) ≠ 1 ∧ k + 1 < S.length)) : nextV S (k : Int) c = ((S[k]).act (idx c), 0, false) := by
  rw [nextV_in h]
  have : nxt S.length k ((S[k]).act (idx c)) = 0 := by unfold nxt; rw [if_neg hg]
  rw [this]
  rfl
theorem next_go (W : World) (B tb k N : Nat) (S : List ST) (c a : Int) (h : TableAt W B tb S) (hN : S.length = N) (hk : k < S.length) (ha : (S[k]).act (idx c) = a) (h1 : a ≠ 1) (h2 : k + 1 < N) :
    Calls Try.prog 16 #[.pointer (some ⟨tb, 0, none⟩), .int .i64 (k : Int), .int .i64 c] W fun e w' => e = .returned (.tuple #[.int .i64 a, .int .i64 ((k : Int) + 1), .bool true]) ∧ Below W.heap.size W w' := by
  have := next_calls W B tb S (k : Int) c h
  rw [idx_nextV hk ⟨by rw [ha]; exact h1, by rw [hN]; exact h2⟩, ha] at this
  exact this
theorem next_stop (W : World) (B tb k N : Nat) (S : List ST) (c a : Int) (h : TableAt W B tb S) (hN : S.length = N) (hk : k < S.length) (ha : (S[k]).act (idx c) = a) (h1 : a = 1 ∨ ¬ k + 1 < N) :
    Calls Try.prog 16 #[.pointer (some ⟨tb, 0, none⟩), .int .i64 (k : Int), .int .i64 c] W fun e w' => e = .returned (.tuple #[.int .i64 a, .int .i64 0, .bool false]) ∧ Below W.heap.size W w' := by
  have := next_calls W B tb S (k : Int) c h
  rw [idx_nextV0 hk (by rw [ha, hN]; omega), ha] at this
  exact this
theorem next_out (W : World) (B tb N : Nat) (S : List ST) (r c : Int) (h : TableAt W B tb S) (hN : S.length = N) (hr : r < 0 ∨ (N : Int) ≤ r) :
    Calls Try.prog 16 #[.pointer (some ⟨tb, 0, none⟩), .int .i64 r, .int .i64 c] W fun e w' => e = .returned (.tuple #[.int .i64 0, .int .i64 0, .bool false]) ∧ Below W.heap.size W w' := by
  have := next_calls W B tb S r c h
  rw [nextV_out (by rw [hN]; exact hr)] at this
  exact this
theorem mayB_len {S : List ST} (h : mayB S = true) : 1 ≤ S.length ∧ S.length ≤ 8 := by
  unfold mayB at h
  simp at h
  exact h.1
set_option maxRecDepth 100000 in
set_option maxHeartbeats 8000000 in
theorem actiontable_walk {H : Type} {enc : TypeId × Value → H} (W : World) (base : Nat)
    (v0 : Value) (d0 : DataW H) (p0 : List MemPlace) (k0 : Value.okWide Try.prog W .any base 22 v0) (h0 : DataW.Trod enc Try.prog W 0 (fun _ => true) true 22 v0 d0 p0)
    (v1 : Value) (d1 : DataW H) (p1 : List MemPlace) (k1 : Value.okWide Try.prog W .any base 3 v1) (h1 : DataW.Trod enc Try.prog W 0 (fun _ => true) true 3 v1 d1 p1)
    (v2 : Value) (d2 : DataW H) (p2 : List MemPlace) (k2 : Value.okWide Try.prog W .any base 3 v2) (h2 : DataW.Trod enc Try.prog W 0 (fun _ => true) true 3 v2 d2 p2) :
    Calls Try.prog 4 #[v0, v1, v2] W fun e w' => e = .returned (.bool true) ∧ Below W.heap.size W w' := by
  obtain ⟨ad, n, c, S0, rfl, hS0, hn0, hsz, hin⟩ := steps_of_trod k0 h0
  obtain ⟨row, rfl, _, _, wr⟩ := open_int Try.underlying3 k1 h1
  obtain ⟨oc, rfl, _, _, wo⟩ := open_int Try.underlying3 k2 h2
  clear k0 k1 k2 h0 h1 h2 wr wo
  have HL := Lib.hid hS0
  have HSZ := Lib.hid hsz
  have HIN := Lib.hid hin
  clear hS0 hsz hin
  obtain ⟨S, hS⟩ : ∃ S, cutL S0 = S := ⟨_, rfl⟩
  have HS := Lib.hid hS
  obtain ⟨N, hN⟩ : ∃ N, S.length = N := ⟨_, rfl⟩
  have HN := Lib.hid hN
  clear hS hN
  cases hmay : mayB S
  · have HM := Lib.hid hmay
    clear hmay
    go_enter Try.func4, Try.ntmps4
    go_wp2_with (first
      | (go_at_call 10; refine (bgaction.begun _).mono ?_; rintro e w1 ⟨rfl, hb1⟩; have HB1 := Lib.hid hb1; clear hb1)
      | (go_at_call 11; refine (lawcut_calls ad n c S0 _ HL.out hn0 HSZ.out (stepsin_below HIN.out HB1.out)).mono ?_; rintro e w2 ⟨v, rfl, ho2, hb2⟩; rw [HS.out, HN.out] at ho2; obtain ⟨al, cl, rfl⟩ := lb.own_shape ho2; have HO2 := Lib.hid ho2; have HB2 := Lib.hid (lb.below_then HB1.out hb2); clear ho2 hb2)
      | (go_at_call 12; refine (compile_calls _ _ N _ S HN.out HO2.out).mono ?_; rintro e w3 ⟨h3, hb3⟩; rw [HM.out] at h3; simp only [true_and, Bool.false_eq_true, false_and, or_false] at h3; subst h3; have HO3 := Lib.hid (lb.own_later HO2.out hb3); have HB3 := Lib.hid (lb.below_then HB2.out hb3); clear hb3)
      | (go_at_call 13; refine (may_calls _ _ N _ S HN.out HO3.out).mono ?_; rintro e w4 ⟨rfl, hw4⟩; obtain rfl := hw4; rw [HM.out])
      | (go_at_call 17; refine (bgaction.code _).mono ?_; rintro e w5 ⟨rfl, hb5⟩; have HB5 := Lib.hid (lb.below_then HB3.out hb5); clear hb5)
      | fail)
    go_ret
    exact ⟨rfl, HB5.out⟩
  · have HM := Lib.hid hmay
    have hlen := mayB_len hmay
    rw [HN.out] at hlen
    obtain ⟨hN1, hN8⟩ := hlen
    clear hmay
    go_enter Try.func4, Try.ntmps4
    go_wp2_with (first
      | (go_at_call 10; refine (bgaction.begun _).mono ?_; rintro e w1 ⟨rfl, hb1⟩; have HB1 := Lib.hid hb1; clear hb1)
      | (go_at_call 11; refine (lawcut_calls ad n c S0 _ HL.out hn0 HSZ.out (stepsin_below HIN.out HB1.out)).mono ?_; rintro e w2 ⟨v, rfl, ho2, hb2⟩; rw [HS.out, HN.out] at ho2; obtain ⟨g, cl, rfl⟩ := steps_addr ho2 (by omega); have HO2 := Lib.hid ho2; have HB2 := Lib.hid (lb.below_then HB1.out hb2); clear ho2 hb2)
      | (go_at_call 12; refine (compile_calls _ _ N _ S HN.out HO2.out).mono ?_; rintro e w3 ⟨h3, hb3⟩; rw [HM.out] at h3; simp only [true_and, Bool.true_eq_false, false_and, false_or] at h3; obtain ⟨tb, rfl, ht⟩ := h3; have HT := Lib.hid ht; have HO3 := Lib.hid (lb.own_later HO2.out hb3); have HB3 := Lib.hid (lb.below_then HB2.out hb3); clear ht hb3)
      | (go_at_call 13; refine (may_calls _ _ N _ S HN.out HO3.out).mono ?_; rintro e w4 ⟨rfl, hw4⟩; obtain rfl := hw4; rw [HM.out])
      | (go_at_call 18; refine (len_calls _ _ tb S N HN.out HT.out).mono ?_; rintro e w5 ⟨rfl, hw5⟩; obtain rfl := hw5)
      | fail)
    go_loopw [11] (fun iv wr => ∃ k : Nat, k ≤ N ∧ iv = .int .i64 (k : Int) ∧ Below w5.heap.size w5 wr) (fun iv _ => N - (intOf iv).toNat)
    case atStart => exact ⟨0, Nat.zero_le _, rfl, Below.refl _ _⟩
    case round =>
      obtain ⟨k, hk, rfl, hbr⟩ := hrel
      have HBR := Lib.hid hbr
      clear hbr
      rcases (show k < N ∨ k = N by omega) with hlt | rfl
      · have hkS : k < S.length := by rw [HN.out]; exact hlt
        go_wp2_with fail
        obtain ⟨wy, hwy⟩ : ∃ wy, wy = wr := ⟨_, rfl⟩
        subst hwy
        go_loopw [12] (fun jv wz => ∃ q : Nat, q ≤ 14 ∧ jv = .int .i64 ((q : Int) - 1) ∧ Below wy.heap.size wy wz) (fun jv _ => 14 - (intOf jv + 1).toNat)
        case atStart => exact ⟨0, by omega, rfl, Below.refl _ _⟩
        case round =>
          obtain ⟨q, hq, rfl, hbz⟩ := hrel
          have HBZ := Lib.hid (lb.below_then HBR.out hbz)
          have HZY := Lib.hid hbz
          clear hbz
          obtain ⟨x, hx⟩ : ∃ x, S[k] = x := ⟨_, rfl⟩
          have HX := Lib.hid hx
          rcases (show q < 14 ∨ q = 14 by omega) with hq14 | rfl
          · obtain ⟨cc, hcc⟩ : ∃ cc : Int, (q : Int) - 1 = cc := ⟨_, rfl⟩
            have hc1 : -1 ≤ cc := by omega
            have hc2 : cc < 13 := by omega
            have HQ := Lib.hid hcc
            obtain ⟨a, ha⟩ : ∃ a, (S[k]).act (idx cc) = a := ⟨_, rfl⟩
            have HA := Lib.hid ha
            rw [hx] at ha
            have HAC := Lib.hid (fun w => action_calls x cc w)
            rw [ha] at HAC
            rw [hcc]
            have FIN : Hid (∀ w, Below wy.heap.size wy w → (∃ q' : Nat, q' ≤ 14 ∧ Value.int .i64 (cc + 1) = .int .i64 ((q' : Int) - 1) ∧ Below wy.heap.size wy w) ∧ 14 - (intOf (.int .i64 (cc + 1)) + 1).toNat < 14 - (intOf (.int .i64 cc) + 1).toNat) := Lib.hid (fun w hw => ⟨⟨q + 1, by omega, by rw [← HQ.out]; congr 1; omega, hw⟩, by simp [intOf]; omega⟩)
            clear hcc ha hx
            rcases (show (a ≠ 1 ∧ k + 1 < N) ∨ (a = 1 ∨ ¬ k + 1 < N) by omega) with ⟨g1, g2⟩ | hg
            · have HNX := Lib.hid (fun w (ht : TableAt w w2.heap.size tb S) => next_go w _ tb k N S cc a ht HN.out hkS HA.out g1 g2)
              have b1 : (a != 1) = true := by simp [g1]
              go_wp2_with (first
                | (go_at_call 16; refine (HNX.out _ (HT.out.later HBZ.out)).mono ?_; rintro e w7 ⟨rfl, hb7⟩; have HB7 := Lib.hid (lb.below_then HBZ.out hb7); have HY7 := Lib.hid (lb.below_then HZY.out hb7); obtain ⟨e0, e1, e2, e3, e4⟩ := steps5 (lb.own_later HO3.out HB7.out) HN.out hkS HX.out; clear hb7)
                | (go_at_call 19; refine (HAC.out _).mono ?_; rintro e w8 ⟨rfl, hb8⟩; have HY8 := Lib.hid (lb.below_then HY7.out hb8); clear hb8)
                | fail)
              exact FIN.out _ HY8.out
            · have HNX := Lib.hid (fun w (ht : TableAt w w2.heap.size tb S) => next_stop w _ tb k N S cc a ht HN.out hkS HA.out hg)
              rcases hg with rfl | hg
              · go_wp2_with (first
                  | (go_at_call 16; refine (HNX.out _ (HT.out.later HBZ.out)).mono ?_; rintro e w7 ⟨rfl, hb7⟩; have HB7 := Lib.hid (lb.below_then HBZ.out hb7); have HY7 := Lib.hid (lb.below_then HZY.out hb7); obtain ⟨e0, e1, e2, e3, e4⟩ := steps5 (lb.own_later HO3.out HB7.out) HN.out hkS HX.out; clear hb7)
                  | (go_at_call 19; refine (HAC.out _).mono ?_; rintro e w8 ⟨rfl, hb8⟩; have HY8 := Lib.hid (lb.below_then HY7.out hb8); clear hb8)
                  | fail)
                exact FIN.out _ HY8.out
              · go_wp2_with (first
                  | (go_at_call 16; refine (HNX.out _ (HT.out.later HBZ.out)).mono ?_; rintro e w7 ⟨rfl, hb7⟩; have HB7 := Lib.hid (lb.below_then HBZ.out hb7); have HY7 := Lib.hid (lb.below_then HZY.out hb7); obtain ⟨e0, e1, e2, e3, e4⟩ := steps5 (lb.own_later HO3.out HB7.out) HN.out hkS HX.out; clear hb7)
                  | (go_at_call 19; refine (HAC.out _).mono ?_; rintro e w8 ⟨rfl, hb8⟩; have HY8 := Lib.hid (lb.below_then HY7.out hb8); clear hb8)
                  | fail)
                all_goals exact FIN.out _ HY8.out
          · obtain ⟨e0, _⟩ := steps5 (lb.own_later HO3.out HBZ.out) HN.out hkS hx
            have hsr := srcAt_in hkS
            rw [hx] at hsr
            have HSC := Lib.hid (fun w (ht : TableAt w w2.heap.size tb S) => source_calls w w2.heap.size tb S (k : Int) ht)
            rw [hsr] at HSC
            clear hsr hx
            go_wp2_with fail
            go_quiet ((go_at_call 15; exact Calls.quiet_of_same (HSC.out _ (HT.out.later (lb.drewN_of HBZ.out _)))))
            go_wp2
            exact ⟨⟨k + 1, by omega, by go_num, lb.drewN_of HBZ.out _⟩, by simp [intOf]; omega⟩
      · have LAST : Hid (Below W.heap.size W wr) := Lib.hid (lb.below_then HB3.out HBR.out)
        rcases (show row < 0 ∨ (k : Int) ≤ row ∨ (0 ≤ row ∧ row < k) by omega) with g1 | g1 | ⟨g1, g2⟩
        · have HNX := Lib.hid (next_out wr _ tb k S row oc (HT.out.later HBR.out) HN.out (.inl g1))
          have hso := srcAt_out (S := S) (r := row) (by rw [HN.out]; exact .inl g1)
          have HSC := Lib.hid (fun w (ht : TableAt w w2.heap.size tb S) => source_calls w w2.heap.size tb S row ht)
          rw [hso] at HSC
          clear hso
          go_wp2_with (first
            | (go_at_call 16; refine HNX.out.mono ?_; rintro e w7 ⟨rfl, hb7⟩; have HB7 := Lib.hid (lb.below_then HBR.out hb7); have HL7 := Lib.hid (lb.below_then LAST.out hb7); clear hb7)
            | (go_at_call 15; refine (HSC.out _ (HT.out.later HB7.out)).mono ?_; rintro e w8 ⟨rfl, hw8⟩; obtain rfl := hw8)
            | fail)
          all_goals (go_ret; exact ⟨rfl, HL7.out⟩)
        · have HNX := Lib.hid (next_out wr _ tb k S row oc (HT.out.later HBR.out) HN.out (.inr g1))
          have hso := srcAt_out (S := S) (r := row) (by rw [HN.out]; exact .inr g1)
          have HSC := Lib.hid (fun w (ht : TableAt w w2.heap.size tb S) => source_calls w w2.heap.size tb S row ht)
          rw [hso] at HSC
          clear hso
          go_wp2_with (first
            | (go_at_call 16; refine HNX.out.mono ?_; rintro e w7 ⟨rfl, hb7⟩; have HB7 := Lib.hid (lb.below_then HBR.out hb7); have HL7 := Lib.hid (lb.below_then LAST.out hb7); clear hb7)
            | (go_at_call 15; refine (HSC.out _ (HT.out.later HB7.out)).mono ?_; rintro e w8 ⟨rfl, hw8⟩; obtain rfl := hw8)
            | fail)
          all_goals (go_ret; exact ⟨rfl, HL7.out⟩)
        · have HNX := Lib.hid (next_calls wr _ tb S row oc (HT.out.later HBR.out))
          obtain ⟨⟨x1, x2, x3⟩, hx⟩ : ∃ x, nextV S row oc = x := ⟨_, rfl⟩
          rw [hx] at HNX
          clear hx
          go_wp2_with (first
            | (go_at_call 16; refine HNX.out.mono ?_; rintro e w7 ⟨rfl, hb7⟩; have HL7 := Lib.hid (lb.below_then LAST.out hb7); clear hb7)
            | fail)
          all_goals (go_ret; exact ⟨rfl, HL7.out⟩)
end Go.Proofs.Ytgfkgoiaoglhnaa.ac
