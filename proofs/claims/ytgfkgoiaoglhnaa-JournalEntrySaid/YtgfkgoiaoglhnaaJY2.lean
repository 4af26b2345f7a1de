/- The walk of the law JournalEntry. -/
import Derived.Test.YtgfkgoiaoglhnaaProg
import Derived.WalkKit
import Derived.ProofKit
import Derived.Lib.Hide
import Derived.WalkLawsBesides
import Derived.WalkSpells
import Derived.Deep.RegionWith
import Derived.Deep.QuietTactic
import Derived.BigQuiet
import Derived.Deep.DeepCutAuto
import Derived.Deep.CutBlock
import Derived.Test.YtgfkgoiaoglhnaaJI
import Derived.Test.YtgfkgoiaoglhnaaBK
namespace Go.Proofs.Ytgfkgoiaoglhnaa.jr
open Go Go.RowKit Go.ChangeShapes Go.WideShapes
set_option linter.unusedVariables false
set_option linter.unusedSimpArgs false
/-- Eight cells of a block, stored one by one. -/
abbrev set8 (w : World) (Z : Nat) (x0 x1 x2 x3 x4 x5 x6 x7 : Value) : World :=
  (((((((w.setCell ⟨Z, 0, none⟩ x0).setCell ⟨Z, 1, none⟩ x1).setCell ⟨Z, 2, none⟩ x2).setCell ⟨Z, 3, none⟩ x3).setCell ⟨Z, 4, none⟩ x4).setCell ⟨Z, 5, none⟩ x5).setCell ⟨Z, 6, none⟩ x6).setCell ⟨Z, 7, none⟩ x7
theorem set8_blk {w : World} {Z : Nat} {y0 y1 y2 y3 y4 y5 y6 y7 : Value} {t : TypeId} {m : Nat × Nat} (h : w.heap[Z]? = some (.cells #[y0, y1, y2, y3, y4, y5, y6, y7] t m)) (x0 x1 x2 x3 x4 x5 x6 x7 : Value) : (set8 w Z x0 x1 x2 x3 x4 x5 x6 x7).heap[Z]? = some (.cells #[x0, x1, x2, x3, x4, x5, x6, x7] t m) := by
  have b0 : (w.setCell ⟨Z, 0, none⟩ x0).heap[Z]? = some (.cells #[x0, y1, y2, y3, y4, y5, y6, y7] t m) := lb.blk_set h
  have b1 : ((w.setCell ⟨Z, 0, none⟩ x0).setCell ⟨Z, 1, none⟩ x1).heap[Z]? = some (.cells #[x0, x1, y2, y3, y4, y5, y6, y7] t m) := lb.blk_set b0
  have b2 : (((w.setCell ⟨Z, 0, none⟩ x0).setCell ⟨Z, 1, none⟩ x1).setCell ⟨Z, 2, none⟩ x2).heap[Z]? = some (.cells #[x0, x1, x2, y3, y4, y5, y6, y7] t m) := lb.blk_set b1
  have b3 : ((((w.setCell ⟨Z, 0, none⟩ x0).setCell ⟨Z, 1, none⟩ x1).setCell ⟨Z, 2, none⟩ x2).setCell ⟨Z, 3, none⟩ x3).heap[Z]? = some (.cells #[x0, x1, x2, x3, y4, y5, y6, y7] t m) := lb.blk_set b2
  have b4 : (((((w.setCell ⟨Z, 0, none⟩ x0).setCell ⟨Z, 1, none⟩ x1).setCell ⟨Z, 2, none⟩ x2).setCell ⟨Z, 3, none⟩ x3).setCell ⟨Z, 4, none⟩ x4).heap[Z]? = some (.cells #[x0, x1, x2, x3, x4, y5, y6, y7] t m) := lb.blk_set b3
  have b5 : ((((((w.setCell ⟨Z, 0, none⟩ x0).setCell ⟨Z, 1, none⟩ x1).setCell ⟨Z, 2, none⟩ x2).setCell ⟨Z, 3, none⟩ x3).setCell ⟨Z, 4, none⟩ x4).setCell ⟨Z, 5, none⟩ x5).heap[Z]? = some (.cells #[x0, x1, x2, x3, x4, x5, y6, y7] t m) := lb.blk_set b4
  have b6 : (((((((w.setCell ⟨Z, 0, none⟩ x0).setCell ⟨Z, 1, none⟩ x1).setCell ⟨Z, 2, none⟩ x2).setCell ⟨Z, 3, none⟩ x3).setCell ⟨Z, 4, none⟩ x4).setCell ⟨Z, 5, none⟩ x5).setCell ⟨Z, 6, none⟩ x6).heap[Z]? = some (.cells #[x0, x1, x2, x3, x4, x5, x6, y7] t m) := lb.blk_set b5
  have b7 : ((((((((w.setCell ⟨Z, 0, none⟩ x0).setCell ⟨Z, 1, none⟩ x1).setCell ⟨Z, 2, none⟩ x2).setCell ⟨Z, 3, none⟩ x3).setCell ⟨Z, 4, none⟩ x4).setCell ⟨Z, 5, none⟩ x5).setCell ⟨Z, 6, none⟩ x6).setCell ⟨Z, 7, none⟩ x7).heap[Z]? = some (.cells #[x0, x1, x2, x3, x4, x5, x6, x7] t m) := lb.blk_set b6
  exact b7
theorem set8_own {e t : TypeId} {w : World} {B s n Z : Nat} {v : Value} {xs : List Value} {c : Array Value} {m : Nat × Nat} (ho : w.ownsRow B e s v n xs) (h : w.heap[Z]? = some (.cells c t m)) (ht : t ≠ e) (x0 x1 x2 x3 x4 x5 x6 x7 : Value) : (set8 w Z x0 x1 x2 x3 x4 x5 x6 x7).ownsRow B e s v n xs := by
  have o0 := lb.own_set (x := x0) ho h ht 0
  have b0 := lb.blk_set (j := 0) (u := x0) h
  have o1 := lb.own_set (x := x1) o0 b0 ht 1
  have b1 := lb.blk_set (j := 1) (u := x1) b0
  have o2 := lb.own_set (x := x2) o1 b1 ht 2
  have b2 := lb.blk_set (j := 2) (u := x2) b1
  have o3 := lb.own_set (x := x3) o2 b2 ht 3
  have b3 := lb.blk_set (j := 3) (u := x3) b2
  have o4 := lb.own_set (x := x4) o3 b3 ht 4
  have b4 := lb.blk_set (j := 4) (u := x4) b3
  have o5 := lb.own_set (x := x5) o4 b4 ht 5
  have b5 := lb.blk_set (j := 5) (u := x5) b4
  have o6 := lb.own_set (x := x6) o5 b5 ht 6
  have b6 := lb.blk_set (j := 6) (u := x6) b5
  have o7 := lb.own_set (x := x7) o6 b6 ht 7
  exact o7
theorem set8_below {B Z : Nat} {W0 w : World} (h : Below B W0 w) (hz : B ≤ Z) (x0 x1 x2 x3 x4 x5 x6 x7 : Value) : Below B W0 (set8 w Z x0 x1 x2 x3 x4 x5 x6 x7) :=
  (((((((h.setCell hz _).setCell hz _).setCell hz _).setCell hz _).setCell hz _).setCell hz _).setCell hz _).setCell hz _
theorem set8_ownE {W w : World} {Z : Nat} {e : En} {v : Value} {c : Array Value} {m : Nat × Nat} (ho : OwnE W w e v) (h : w.heap[Z]? = some (.cells c 64 m)) (x0 x1 x2 x3 x4 x5 x6 x7 : Value) : OwnE W (set8 w Z x0 x1 x2 x3 x4 x5 x6 x7) e v := by
  obtain ⟨v1, v2, v3, h0, h1, h2, h3⟩ := ho
  exact ⟨v1, v2, v3, h0, set8_own h1 h (by decide) _ _ _ _ _ _ _ _, set8_own h2 h (by decide) _ _ _ _ _ _ _ _, set8_own h3 h (by decide) _ _ _ _ _ _ _ _⟩
theorem own_open {W w : World} {e : En} {v : Value} (h : OwnE W w e v) : ∃ a1 c1 a2 c2 a3 c3, v = .agg (enCells e a1 a2 a3 e.names.length c1 e.addrs.length c2 e.deps.length c3) := by
  obtain ⟨v1, v2, v3, rfl, h1, h2, h3⟩ := h
  obtain ⟨a1, c1, rfl, l1, t1⟩ := texts_own h1
  obtain ⟨a2, c2, rfl, l2, t2⟩ := texts_own h2
  obtain ⟨a3, c3, rfl, l3, t3⟩ := deps_own h3
  exact ⟨a1, c1, a2, c2, a3, c3, rfl⟩
theorem own_at2 {W w : World} {e : En} {a1 a2 a3 : Option Addr} {n1 c1 n2 c2 n3 c3 : Nat} (h : OwnE W w e (.agg (enCells e a1 a2 a3 n1 c1 n2 c2 n3 c3))) : EnAt w e a1 a2 a3 n1 c1 n2 c2 n3 c3 := by
  obtain ⟨v1, v2, v3, hv, h1, h2, h3⟩ := h
  obtain ⟨b1, d1, rfl, l1, t1⟩ := texts_own h1
  obtain ⟨b2, d2, rfl, l2, t2⟩ := texts_own h2
  obtain ⟨b3, d3, rfl, l3, t3⟩ := deps_own h3
  unfold enCells at hv
  simp only [Value.agg.injEq, Array.mk.injEq, List.cons.injEq, Value.slice.injEq, true_and, and_true] at hv
  obtain ⟨⟨rfl, rfl, rfl⟩, ⟨rfl, rfl, rfl⟩, rfl, rfl, rfl⟩ := hv
  exact ⟨rfl, rfl, rfl, l1, l2, l3, t1, t2, t3⟩
/-- What Drop made is read as the key. -/
theorem read_drop_calls (W : World) (ad : Option Addr) (n c : Nat) (s : ByteArray) (hs : s.size ≤ 300) (hl : (dropL s).length = n) (hsb : lb.SB W ad (dropL s) c) :
    Calls Try.prog 35 #[.slice ad n c] W fun en w' => ∃ x1 b1 m1 k1 b2 m2 k2 x2 x3 x4 b3 m3 k3, en = .returned (.tuple #[.agg #[.string s, .int .i64 x1, .slice b1 m1 k1, .slice b2 m2 k2, .int .i64 x2, .int .i64 x3, .int .i64 x4, .slice b3 m3 k3], .bool false, .nilIface]) ∧ Below W.heap.size W w' := by
  obtain ⟨h1, h2, h3, h4⟩ := drop_back s hs
  refine (read_good W ad n c (dropL s) hl (by omega) hsb h1 _ rfl false (by rw [h2]; rfl)).mono ?_
  rintro en w' ⟨b1, m1, k1, b2, m2, k2, b3, m3, k3, rfl, _, hb⟩
  rw [h3]
  exact ⟨_, b1, m1, k1, b2, m2, k2, _, _, _, b3, m3, k3, rfl, hb⟩
/-- What Put made is read as the entry. -/
theorem read_put_calls (W : World) (ad : Option Addr) (n c : Nat) (e : En) (hs : Small e) (hk : EnOk e) (hn : NumsOk e) (hl : (putL e).length = n) (hsb : lb.SB W ad (putL e) c) :
    Calls Try.prog 35 #[.slice ad n c] W fun en w' => ∃ b1 k1 b2 k2 b3 k3, en = .returned (.tuple #[.agg (enCells e b1 b2 b3 e.names.length k1 e.addrs.length k2 e.deps.length k3), .bool true, .nilIface]) ∧ EnAt w' e b1 b2 b3 e.names.length k1 e.addrs.length k2 e.deps.length k3 ∧ Below W.heap.size W w' := by
  obtain ⟨h1, h2, h3, h4⟩ := cut_back hs hk hn
  refine (read_good W ad n c (putL e) hl (by omega) hsb h1 e h3 true (by rw [h2]; rfl)).mono ?_
  rintro en w' ⟨b1, m1, k1, b2, m2, k2, b3, m3, k3, rfl, ho, hb⟩
  have hat : EnAt w' e b1 b2 b3 m1 k1 m2 k2 m3 k3 := own_at2 ho
  obtain rfl := hat.ln
  obtain rfl := hat.la
  obtain rfl := hat.ld
  exact ⟨b1, k1, b2, k2, b3, k3, rfl, hat, hb⟩
set_option maxRecDepth 100000 in
set_option maxHeartbeats 8000000 in
theorem journalentry_walk {H : Type} {enc : TypeId × Value → H} (W : World) (base : Nat)
    (v0 : Value) (d0 : DataW H) (p0 : List MemPlace) (k0 : Value.okWide Try.prog W .any base 64 v0) (h0 : DataW.Trod enc Try.prog W 0 (fun _ => true) true 64 v0 d0 p0)
    (v1 : Value) (d1 : DataW H) (p1 : List MemPlace) (k1 : Value.okWide Try.prog W .any base 9 v1) (h1 : DataW.Trod enc Try.prog W 0 (fun _ => true) true 9 v1 d1 p1) :
    Calls Try.prog 8 #[v0, v1] W fun e w' => e = .returned (.bool true) ∧ Below W.heap.size W w' := by
  obtain ⟨e, a1, a2, a3, n1, c1, n2, c2, n3, c3, rfl, heb, hat⟩ := entry_arg k0 h0
  obtain ⟨key, rfl, _, _, hkb⟩ := Go.ChangeMaps.open_string Try.underlying9 k1 h1
  unfold maxLen at hkb
  clear k0 k1 h0 h1
  obtain ⟨W0, hW0⟩ : ∃ W0, W0 = W.alloc (.cells (enCells e a1 a2 a3 n1 c1 n2 c2 n3 c3) 64) := ⟨_, rfl⟩
  obtain ⟨Z, hZ⟩ : ∃ Z, Z = W.heap.size := ⟨_, rfl⟩
  have hBW : Below W.heap.size W W0 := by rw [hW0]; exact lb.below_alloc _ _
  have hblk : W0.heap[Z]? = some (.cells (enCells e a1 a2 a3 n1 c1 n2 c2 n3 c3) 64 (0, 0)) := by rw [hW0]; exact blk_new _ _ _ hZ
  have HEB := Lib.hid heb
  have HBLK := Lib.hid hblk
  have HBW := Lib.hid hBW
  have HAT := Lib.hid (hat.below hBW)
  have HZ := Lib.hid hZ
  have HW0 := Lib.hid hW0
  clear heb hat hW0 hBW hblk hZ
  unfold enCells
  go_enter Try.func8, Try.ntmps8
  go_upto_region 0 with fail
  go_cut [2, 4] (fun pv rv wx => pv = .pointer (some ⟨Z, 0, none⟩) ∧ rv = .bool false ∧ wx = W0)
  case first =>
    go_wp2_with fail
    go_meet
    have hw0 := HW0.out
    unfold enCells at hw0
    rw [← hw0, HZ.out]
    exact ⟨rfl, rfl, rfl⟩
  case rest =>
  obtain ⟨rfl, rfl, rfl⟩ := hcut
  go_upto_region 4 with (first
    | (go_at_call 30; refine (bgjournal.begun _).mono ?_; rintro en w1 ⟨rfl, hb1⟩; have HB1 := Lib.hid hb1; clear hb1)
    | fail)
  obtain ⟨E, hE⟩ : ∃ E, cutE e = E := ⟨_, rfl⟩
  have hsm := cut_small e
  have hok := cutE_ok e HEB.out
  rw [hE] at hsm hok
  have HSM := Lib.hid hsm
  have HOK := Lib.hid hok
  have HE := Lib.hid hE
  clear hsm hok hE
  go_cut [2] (fun pv wx => ∃ a1 c1 a2 c2 a3 c3, pv = .pointer (some ⟨Z, 0, none⟩) ∧ wx.heap[Z]? = some (.cells (enCells E a1 a2 a3 E.names.length c1 E.addrs.length c2 E.deps.length c3) 64 (0, 0)) ∧ OwnE W wx E (.agg (enCells E a1 a2 a3 E.names.length c1 E.addrs.length c2 E.deps.length c3)) ∧ Below W.heap.size W wx)
  case first =>
    have hblk1 := below_blk HB1.out HBLK.out
    obtain ⟨q0, q1, q2, q3, q4, q5, q6, q7⟩ := en_cells hblk1
    go_wp2_with (first
      | (go_at_call 33; refine (cutentry_calls w1 e a1 a2 a3 n1 c1 n2 c2 n3 c3 HEB.out (HAT.out.below HB1.out)).mono ?_; rintro en w2 ⟨v, rfl, ho2, hb2⟩; rw [HE.out] at ho2; obtain ⟨x1, y1, x2, y2, x3, y3, rfl⟩ := own_open ho2; have hblk2 := below_blk hb2 (below_blk HB1.out HBLK.out); have HBLK2 := Lib.hid hblk2; have HO2 := Lib.hid ho2; have HB2 := Lib.hid (lb.below_then HB1.out hb2); clear q0 q1 q2 q3 q4 q5 q6 q7; obtain ⟨q0, q1, q2, q3, q4, q5, q6, q7⟩ := en_cells hblk2; have hfz := ebf hblk2 rfl; unfold enCells; clear ho2 hb2 hblk2)
      | fail)
    go_meet
    refine ⟨x1, y1, x2, y2, x3, y3, rfl, set8_blk (by have := HBLK2.out; unfold enCells at this; exact this) _ _ _ _ _ _ _ _, ?_, ?_⟩
    · exact set8_ownE (OwnE.base HO2.out (Nat.le_trans HBW.out.size HB1.out.size)) HBLK2.out _ _ _ _ _ _ _ _
    · exact set8_below (lb.below_then HBW.out HB2.out) (by rw [HZ.out]; exact Nat.le_refl _) _ _ _ _ _ _ _ _
  case rest =>
  obtain ⟨x1, y1, x2, y2, x3, y3, rfl, hblk, hoe, hb⟩ := hcut
  have HBK := Lib.hid hblk
  have HOE := Lib.hid hoe
  have HBC := Lib.hid hb
  have hks := ac.cutS_size key 290
  have HKB := Lib.hid hkb
  clear hblk hoe hb hkb HBLK HAT HW0 HB1 HBW
  obtain ⟨ks, hkk⟩ : ∃ ks, ac.cutS key 290 = ks := ⟨_, rfl⟩
  rw [hkk] at hks
  have HKK := Lib.hid hkk
  clear hkk
  obtain ⟨DL, hDL⟩ : ∃ n, (dropL ks).length = n := ⟨_, rfl⟩
  have HDL := Lib.hid hDL
  clear hDL
  go_upto_if 36 with (first
    | (go_at_call 34; refine (ac.cut_calls key 290 _ (by omega) HKB.out).mono ?_; rintro en w4 ⟨rfl, rfl⟩; rw [HKK.out])
    | (go_at_call 36; refine (drop_sb _ ks (dropL ks) DL (by omega) rfl HDL.out).mono ?_; rintro en w5 ⟨ad5, cp5, rfl, ho5, hs5, hb5⟩; have HS5 := Lib.hid hs5; have HB5 := Lib.hid hb5; clear ho5 hs5 hb5)
    | (go_at_call 35; refine (read_drop_calls w5 ad5 DL cp5 ks (by omega) HDL.out HS5.out).mono ?_; rintro en w6 ⟨z1, b1, m1, k1, b2, m2, k2, z2, z3, z4, b3, m3, k3, rfl, hb6⟩; have hbw6 := lb.below_then HB5.out hb6; have hblk6 := below_blk hbw6 HBK.out; have HBK6 := Lib.hid hblk6; have HB6 := Lib.hid hbw6; have hz6 : Z < w6.heap.size := (Array.getElem?_eq_some_iff.1 hblk6).1; obtain ⟨q0, q1, q2, q3, q4, q5, q6, q7⟩ := en_cells hblk6; clear hb6 hbw6 hblk6)
    | fail)
  have HP : Hid (∀ w v, OwnE W w E v → Calls Try.prog 32 #[v] w fun en w' => ∃ ad c, en = .returned (.slice ad (putL E).length c) ∧ w'.ownsRow w.heap.size 5 1 (.slice ad (putL E).length c) (putL E).length (lb.vB (putL E)) ∧ lb.SB w' ad (putL E) c ∧ Below w.heap.size w w') := Lib.hid (fun w v h => put_sb W w E v (putL E) (putL E).length HOK.out h rfl rfl)
  obtain ⟨PL, hPL⟩ : ∃ n, (putL E).length = n := ⟨_, rfl⟩
  rw [hPL] at HP
  have HPL := Lib.hid hPL
  clear hPL
  by_cases hnum : NumsOk E
  · have HNUM := Lib.hid hnum
    clear hnum
    have HK : Hid (∀ w a1 c1 a2 c2 a3 c3, EnAt w E a1 a2 a3 E.names.length c1 E.addrs.length c2 E.deps.length c3 → Calls Try.prog 37 #[.agg (enCells E a1 a2 a3 E.names.length c1 E.addrs.length c2 E.deps.length c3)] w fun en w' => en = .returned (.bool true) ∧ Below w.heap.size w w') := Lib.hid (fun w a1 c1 a2 c2 a3 c3 h => keeps_calls w E _ _ _ _ _ _ _ _ _ HSM.out h true ⟨fun _ => HNUM.out, fun _ => rfl⟩)
    go_wp2_with (first
      | (go_at_call 32; refine (HP.out _ _ (HOE.out.below (HB6.out.alloc HB6.out.size _))).mono ?_; rintro en w7 ⟨ad7, cp7, rfl, ho7, hs7, hb7⟩; have hbw7 := lb.below_then (HB6.out.alloc HB6.out.size _) hb7; have HS7 := Lib.hid hs7; have HB7 := Lib.hid hbw7; have hblk7 := below_blk hbw7 HBK.out; have HBK7 := Lib.hid hblk7; obtain ⟨g0, g1, g2, g3, g4, g5, g6, g7⟩ := en_cells hblk7; clear ho7 hs7 hb7 hbw7 hblk7 q0 q1 q2 q3 q4 q5 q6 q7)
      | (go_at_call 37; refine (HK.out w7 x1 y1 x2 y2 x3 y3 (own_at2 (HOE.out.below HB7.out))).mono ?_; rintro en w8 ⟨rfl, hb8⟩; have HB8 := Lib.hid hb8; clear hb8)
      | (go_at_call 35; refine (read_put_calls w8 ad7 PL cp7 E HSM.out HOK.out HNUM.out HPL.out (HS7.out.below HB8.out)).mono ?_; rintro en w9 ⟨b4, k4, b5, k5, b6, k6, rfl, hat9, hb9⟩; unfold enCells; have hbw9 := lb.below_then (lb.below_then HB7.out HB8.out) hb9; have hblk9 := below_blk hbw9 HBK.out; have hz9 : Z < w9.heap.size := (Array.getElem?_eq_some_iff.1 hblk9).1; have HAT9 := Lib.hid hat9; have HB9 := Lib.hid hbw9; obtain ⟨r0, r1, r2, r3, r4, r5, r6, r7⟩ := en_cells hblk9; clear hat9 hb9 hbw9 hblk9 g0 g1 g2 g3 g4 g5 g6 g7)
      | (go_at_call 38; refine (req_entry _ E b4 b5 b6 x1 x2 x3 _ k4 y1 _ k5 y2 _ k6 y3 HSM.out (HAT9.out.below (lb.below_alloc w9 _)) ((own_at2 (HOE.out.below HB9.out)).below (lb.below_alloc w9 _))).mono ?_; rintro en w10 ⟨rfl, hb10⟩; have HB10 := Lib.hid (lb.below_then (HB9.out.alloc HB9.out.size _) hb10); clear hb10)
      | fail)
    go_ret
    exact ⟨rfl, lb.below_then HBC.out HB10.out⟩
  · have hnil := put_no E (by have := HSM.out.ld; omega) hnum
    have hpl0 : PL = 0 := by have := HPL.out; rw [hnil] at this; exact this.symm
    have HNUM := Lib.hid hnum
    subst hpl0
    clear hnum hnil
    have HK : Hid (∀ w a1 c1 a2 c2 a3 c3, EnAt w E a1 a2 a3 E.names.length c1 E.addrs.length c2 E.deps.length c3 → Calls Try.prog 37 #[.agg (enCells E a1 a2 a3 E.names.length c1 E.addrs.length c2 E.deps.length c3)] w fun en w' => en = .returned (.bool false) ∧ Below w.heap.size w w') := Lib.hid (fun w a1 c1 a2 c2 a3 c3 h => keeps_calls w E _ _ _ _ _ _ _ _ _ HSM.out h false ⟨(fun h => (by cases h)), fun h => absurd h HNUM.out⟩)
    go_wp2_with (first
      | (go_at_call 32; refine (HP.out _ _ (HOE.out.below (HB6.out.alloc HB6.out.size _))).mono ?_; rintro en w7 ⟨ad7, cp7, rfl, ho7, hs7, hb7⟩; have hbw7 := lb.below_then (HB6.out.alloc HB6.out.size _) hb7; have HB7 := Lib.hid hbw7; have hblk7 := below_blk hbw7 HBK.out; obtain ⟨g0, g1, g2, g3, g4, g5, g6, g7⟩ := en_cells hblk7; clear ho7 hs7 hb7 hbw7 hblk7 q0 q1 q2 q3 q4 q5 q6 q7)
      | (go_at_call 37; refine (HK.out w7 x1 y1 x2 y2 x3 y3 (own_at2 (HOE.out.below HB7.out))).mono ?_; rintro en w8 ⟨rfl, hb8⟩; have HB8 := Lib.hid (lb.below_then HB7.out hb8); clear hb8)
      | fail)
    go_ret
    exact ⟨rfl, lb.below_then HBC.out HB8.out⟩
end Go.Proofs.Ytgfkgoiaoglhnaa.jr
