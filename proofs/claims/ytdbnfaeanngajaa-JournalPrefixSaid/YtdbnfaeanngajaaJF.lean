/- The walk of the law JournalScan. -/
import Derived.Test.YtdbnfaeanngajaaProg
import Derived.WalkKit
import Derived.ProofKit
import Derived.Lib.Hide
import Derived.WalkLawsBesides
import Derived.WalkSpells
import Derived.Deep.RegionWith
import Derived.Deep.QuietTactic
import Derived.BigQuiet
import Derived.Deep.DeepCutAuto
import Derived.Deep.CutBlock
import Derived.Laws.BytesString
import Derived.Test.YtdbnfaeanngajaaJE
import Derived.Test.YtdbnfaeanngajaaBJ
namespace Go.Proofs.Ytdbnfaeanngajaa.jr
open Go Go.RowKit Go.ChangeShapes Go.WideShapes
set_option linter.unusedVariables false
set_option linter.unusedSimpArgs false
theorem short_calls (ad : Option Addr) (n c m : Nat) (W : World) (hn : n ≤ 9223372036854775807) (hm : m ≤ 9223372036854775807) (hcap : n ≤ c) :
    Calls Try.prog 13 #[.slice ad n c, .int .i64 (m : Int)] W fun e w' => e = .returned (.slice ad (min n m) c) ∧ W = w' := by
  by_cases h : m < n
  · rw [Nat.min_eq_right (by omega)]
    go_enter Try.func13, Try.ntmps13
    go_wp2
    go_ret
    exact ⟨rfl, rfl⟩
  · rw [Nat.min_eq_left (by omega)]
    go_enter Try.func13, Try.ntmps13
    go_wp2
    go_ret
    exact ⟨rfl, rfl⟩
theorem sb_take {W : World} {ad : Option Addr} {l : List UInt8} {c : Nat} (h : lb.SB W ad l c) (m : Nat) : lb.SB W ad (l.take m) c :=
  ⟨by have := h.le; simp; omega, h.max, h.nil, h.at_.take m⟩
theorem frame_n (ad : Option Addr) (n c : Nat) (l : List UInt8) (W : World) (h : lb.SB W ad l c) (hl : l.length = n) (hn : n ≤ 8192) :
    Calls Try.prog 43 #[.slice ad n c] W fun e w' => ∃ a1 c1, e = .returned (.slice a1 (8 + n) c1) ∧ w'.ownsRow W.heap.size 5 1 (.slice a1 (8 + n) c1) (8 + n) (lb.vB (frameL l)) ∧ lb.SB w' a1 (frameL l) c1 ∧ Below W.heap.size W w' := by
  subst hl
  refine (frame_calls ad c l W h (by omega)).mono ?_
  rintro e w' ⟨v, rfl, ho, hb⟩
  obtain ⟨a1, c1, rfl, hs⟩ := lb.own_bytes ho
  rw [frame_len hn] at ho ⊢
  exact ⟨a1, c1, rfl, ho, hs, hb⟩
theorem rframe_n (ad : Option Addr) (n c : Nat) (l : List UInt8) (W : World) (h : lb.SB W ad l c) (hl : l.length = n) (hn : n ≤ 8192) :
    Calls Try.prog 44 #[.slice ad n c] W fun e w' => ∃ a1 c1, e = .returned (.slice a1 (8 + n) c1) ∧ lb.SB w' a1 (frameL l) c1 ∧ Below W.heap.size W w' := by
  subst hl
  refine (rframe_calls ad c l W h (by omega)).mono ?_
  rintro e w' ⟨v, rfl, ho, hb⟩
  obtain ⟨a1, c1, rfl, hs⟩ := lb.own_bytes ho
  rw [frame_len hn]
  exact ⟨a1, c1, rfl, hs, hb⟩
theorem conv_SB {w : World} {ad : Option Addr} {n c : Nat} {l : List UInt8} (h : lb.SB w ad l c) (hn : l.length = n) :
    (convert 22 9 (.slice ad n c)).run Try.prog w = .ok (lb.sV l) w := by
  subst hn
  cases ad with
  | none =>
    have := h.nil rfl
    have := h.le
    obtain rfl : l = [] := List.eq_nil_of_length_eq_zero (by omega)
    subst_vars
    exact run_convert_bytes_string (P := Try.prog) w 22 9 5 none 0 0 Try.underlying22 Try.underlying5 Try.underlying9
  | some a =>
    refine run_convert_bytes_back (P := Try.prog) w 22 9 5 a c l Try.underlying22 Try.underlying5 Try.underlying9 (fun j hj => ?_)
    rcases h.at_ with h0 | ⟨b, o, he, hc⟩
    · subst h0; simp at hj
    · cases he
      rw [lb.add_flat, hc j hj]
      simp [List.getD, hj]
theorem flip_own {w : World} {B g n cp j x : Nat} {l : List UInt8} (h : w.ownsRow B 5 1 (.slice (some ⟨g, 0, none⟩) n cp) n (lb.vB l)) (hx : x < 256) :
    (w.setCell ⟨g, j, none⟩ (.int .u8 (bits .xor .u8 (((l[j]?.getD 0).toNat : Nat) : Int) (x : Int)))).ownsRow B 5 1 (.slice (some ⟨g, 0, none⟩) n cp) n (lb.vB (l.set j ((l[j]?.getD 0) ^^^ UInt8.ofNat x))) := by
  have := (h.stored j (.int .u8 (bits .xor .u8 (((l[j]?.getD 0).toNat : Nat) : Int) (x : Int)))).1
  refine own_cast this ?_ rfl
  have hc := (l[j]?.getD 0).toNat_lt
  rw [u8_xor_nat _ _ hc hx]
  simp only [lb.vB, List.map_set, UInt8.toNat_xor]
  congr 3
  have : (UInt8.ofNat x).toNat = x := by simp; omega
  rw [this]
theorem len_same {xs ys : List RV} {R : List (List UInt8)} (h : ys.map RV.bs = R) (k : xs.map RV.bs = R) : ys.length = xs.length := by
  have := congrArg List.length (h.trans k.symm)
  simpa using this
theorem rows_at {w : World} {B g n c k : Nat} {xs : List RV} (h : w.ownsRow B 22 1 (.slice (some ⟨g, 0, none⟩) n c) n (xs.map RV.v)) (hk : k < xs.length) : w.cell? ⟨g, k, none⟩ = some (xs[k]).v := by
  have hl : xs.length = n := by have := h.1; simpa using this
  rw [h.cellAt k (by omega)]
  simp [hk]
theorem bs_same {xs ys : List RV} {R : List (List UInt8)} (h : ys.map RV.bs = R) (k : xs.map RV.bs = R) {i : Nat} (hx : i < xs.length) (hy : i < ys.length) : (ys[i]).bs = (xs[i]).bs := by
  have : (ys.map RV.bs)[i]? = (xs.map RV.bs)[i]? := by rw [h, k]
  simpa [hx, hy] using this
theorem own_addr {w : World} {B e s n c : Nat} {ad : Option Addr} {xs : List Value} (h : w.ownsRow B e s (.slice ad n c) n xs) (hn : 0 < n) : ∃ g, ad = some ⟨g, 0, none⟩ := by
  rcases h.2 with ⟨h1, _⟩ | ⟨g, cap, cur, h1, _⟩
  · simp at h1; omega
  · simp at h1; exact ⟨g, h1.1⟩
set_option maxRecDepth 100000 in
theorem cells_u8 : Try.prog.cellsOf 5 = 1 := by kernel_rfl
set_option maxRecDepth 100000 in
theorem cells_bs : Try.prog.cellsOf 22 = 1 := by kernel_rfl
set_option maxRecDepth 100000 in
set_option maxHeartbeats 8000000 in
theorem journalscan_walk {H : Type} {enc : TypeId × Value → H} (W : World) (base : Nat)
    (v0 : Value) (d0 : DataW H) (p0 : List MemPlace) (k0 : Value.okWide Try.prog W .any base 74 v0) (h0 : DataW.Trod enc Try.prog W 0 (fun _ => true) true 74 v0 d0 p0)
    (v1 : Value) (d1 : DataW H) (p1 : List MemPlace) (k1 : Value.okWide Try.prog W .any base 3 v1) (h1 : DataW.Trod enc Try.prog W 0 (fun _ => true) true 3 v1 d1 p1)
    (v2 : Value) (d2 : DataW H) (p2 : List MemPlace) (k2 : Value.okWide Try.prog W .any base 5 v2) (h2 : DataW.Trod enc Try.prog W 0 (fun _ => true) true 5 v2 d2 p2)
    (v3 : Value) (d3 : DataW H) (p3 : List MemPlace) (k3 : Value.okWide Try.prog W .any base 22 v3) (h3 : DataW.Trod enc Try.prog W 0 (fun _ => true) true 22 v3 d3 p3) :
    Calls Try.prog 10 #[v0, v1, v2, v3] W fun e w' => e = .returned (.bool true) ∧ Below W.heap.size W w' := by
  obtain ⟨ad, n, c, rfl, hnc, hcm, hrows⟩ := lb.rows_of_trod Try.underlying74 Try.underlying22 Try.underlying5 cells_bs cells_u8 k0 h0
  obtain ⟨at0, rfl, _, _, wa⟩ := open_int Try.underlying3 k1 h1
  obtain ⟨x0, rfl, _, _, wx⟩ := open_int Try.underlying5 k2 h2
  obtain ⟨ad3, l3, c3, rfl, hs3⟩ := lb.bytes_of_trod Try.underlying22 Try.underlying5 cells_u8 k3 h3
  clear k0 k1 k2 k3 h0 h1 h2 h3
  obtain ⟨i0, hi, hz0, hz1, hz2⟩ := info_parts info_u8
  have HS3 := Lib.hid hs3
  have HRO := Lib.hid hrows
  clear hs3 hrows
  go_enter Try.func10, Try.ntmps10
  go_upto_block 0 with (first
    | (go_at_call 42; refine (bgjournal.begun _).mono ?_; rintro e w1 ⟨rfl, hb1⟩; have HB1 := Lib.hid hb1; clear hb1)
    | fail)
  go_cut [10] (fun bv wx => ∃ L : List UInt8, L.length ≤ 600 ∧ wx.ownsRow W.heap.size 5 1 bv L.length (lb.vB L) ∧ Below W.heap.size W wx)
  case first =>
    go_wp2_with fail
    go_loopw [10, 11] (fun bv iv wr => ∃ (k : Nat) (L : List UInt8), k ≤ n ∧ k ≤ 6 ∧ iv = .int .i64 k ∧ L.length ≤ 100 * k ∧ wr.ownsRow W.heap.size 5 1 bv L.length (lb.vB L) ∧ Below W.heap.size W wr) (fun _ iv _ => 7 - (intOf iv).toNat)
    case atStart => exact ⟨0, [], Nat.zero_le _, by decide, rfl, by simp, lb.own_nil _ _ _ _, HB1.out⟩
    case round =>
      obtain ⟨k, L, hk, hk6, rfl, hL, ho, hb⟩ := hrel
      by_cases hlt : k < n ∧ k < 6
      · obtain ⟨hlt1, hlt2⟩ := hlt
        obtain ⟨b, o, rfl, hr⟩ := HRO.out.resolve_left (by omega)
        obtain ⟨a, l, q, e1, e2⟩ := hr k hlt1
        have e1' := (hb.cell (p := ⟨b, o + k, none⟩) (World.block_lt_of_cell? W _ e1)).trans e1
        have e2' := e2.below hb
        have hls := e2.le
        have hlm := e2.max
        have hmn : (l.take 80).length = min l.length 80 := by simp; omega
        obtain ⟨m, hm⟩ : ∃ m, min l.length 80 = m := ⟨_, rfl⟩
        have hm80 : m ≤ 80 := by omega
        rw [hm] at hmn
        have hsh := short_calls a l.length q 80 wr (by omega) (by decide) hls
        rw [hm] at hsh
        have HSH := Lib.hid hsh
        have HSP := Lib.hid (sb_take e2' 80)
        have HMN := Lib.hid hmn
        obtain ⟨adb, cpb, rfl⟩ := lb.own_shape ho
        have HO := Lib.hid ho
        have HB := Lib.hid hb
        clear e1 e2 e2' hsh hmn hm hr ho hb
        go_wp2_with (first
          | (go_at_call 13; refine HSH.out.mono ?_; rintro e w2 ⟨rfl, rfl⟩)
          | (go_at_call 43; refine (frame_n a m q (l.take 80) wr HSP.out HMN.out (by omega)).mono ?_; rintro e w3 ⟨af, cf, rfl, hof, hsf, hbf⟩; have HOF := Lib.hid hof; have HSF := Lib.hid hsf; have HBF := Lib.hid hbf; have hcv := conv_SB hsf (frame_len (l := l.take 80) (by have := HMN.out; omega)); rw [HMN.out] at hcv; have hcvd := conv_SB (hsf.below ((Below.refl _ w3).drew)) (frame_len (l := l.take 80) (by have := HMN.out; omega)); rw [HMN.out] at hcvd; clear hof hsf hbf hcv)
          | fail)
        go_region_with (((go_at_call 44; refine (rframe_n a m q (l.take 80) w3.drew (HSP.out.below HBF.out.drew) HMN.out (by omega)).mono ?_; rintro e w4 ⟨ar, cr, rfl, hsr, hbr⟩; have HBR := Lib.hid hbr; have hcv2 := conv_SB hsr (frame_len (l := l.take 80) (by have := HMN.out; omega)); rw [HMN.out] at hcv2; have hcv3 := conv_SB (HSF.out.below (((Below.refl _ w3).drew).trans hbr)) (frame_len (l := l.take 80) (by have := HMN.out; omega)); rw [HMN.out] at hcv3; clear hbr hsr)))
        all_goals
          have hb4 := HBF.out.drew.trans (HBR.out.mono HBF.out.size)
          have hB4 := lb.below_then HB.out hb4
          have hsf4 := HSF.out.below (((Below.refl _ w3).drew).trans HBR.out)
          have hfl := frame_len (l := l.take 80) (by have := HMN.out; omega)
          rw [HMN.out] at hfl
          have HFL := Lib.hid hfl
          have HO4 := Lib.hid (lb.own_later HO.out hb4)
          have HB4 := Lib.hid hB4
          have HS4 := Lib.hid hsf4
          clear hb4 hB4 hsf4 hfl hcv2 hcv3 hcvd
          go_wp2_with (first
            | (at_builtin; refine lb.catB rfl (.tmp 45) (.tmp 46) 22 rfl 5 i0 Try.underlying22 hi hz0 hz1 hz2 W w4 _ L.length L (frameL (l.take 80)) af (8 + m) cf rfl rfl HO4.out HB4.out rfl HFL.out HS4.out (by omega) ?_; intro v5 w5 ho5 hb5 hk5; have HO5 := Lib.hid ho5; have HB5 := Lib.hid hb5; clear ho5 hb5 hk5)
            | go_in)
          go_roundw
          case rel => exact ⟨k + 1, L ++ frameL (l.take 80), by omega, by omega, by go_num, by rw [List.length_append, HFL.out]; omega, own_cast HO5.out rfl (by rw [List.length_append, HFL.out]), HB5.out⟩
          case measure => simp [intOf]; omega
      · rcases (show n ≤ k ∨ (k < n ∧ 6 ≤ k) by omega) with hx | ⟨hx, hy⟩
        · go_wp2_with fail
          go_meet
          exact ⟨L, by omega, ho, hb⟩
        · go_wp2_with fail
          go_meet
          exact ⟨L, by omega, ho, hb⟩
  case rest =>
    obtain ⟨L, hL6, ho, hb⟩ := hcut
    obtain ⟨adb, cpb, rfl⟩ := lb.own_shape ho
    have HO := Lib.hid ho
    have HB := Lib.hid hb
    have hl3 := HS3.out.le
    have hm3 := HS3.out.max
    have hmn : (l3.take 60).length = min l3.length 60 := by simp; omega
    obtain ⟨m, hm⟩ : ∃ m, min l3.length 60 = m := ⟨_, rfl⟩
    have hm60 : m ≤ 60 := by omega
    rw [hm] at hmn
    have hsh := short_calls ad3 l3.length c3 60 wc (by omega) (by decide) hl3
    rw [hm] at hsh
    have HSH := Lib.hid hsh
    have HSP := Lib.hid (sb_take (HS3.out.below HB.out) 60)
    have HMN := Lib.hid hmn
    clear hsh hmn hm ho hb
    go_upto_if 54 with (first
      | (go_at_call 13; refine HSH.out.mono ?_; rintro e w2 ⟨rfl, rfl⟩)
      | (at_builtin; refine lb.catB rfl (.tmp 48) (.tmp 50) 22 rfl 5 i0 Try.underlying22 hi hz0 hz1 hz2 W wc _ L.length L (l3.take 60) ad3 m c3 rfl rfl HO.out HB.out rfl HMN.out HSP.out (by omega) ?_; intro v5 w5 ho5 hb5 hk5; obtain ⟨ad5, cp5, rfl⟩ := lb.own_shape ho5; have HO5 := Lib.hid ho5; have HB5 := Lib.hid hb5; clear ho5 hb5 hk5)
      | fail)
    have hwa : -9223372036854775808 ≤ at0 ∧ at0 ≤ 9223372036854775807 := by
      have h := wa
      simp only [Lit.wf, Bool.and_eq_true, decide_eq_true_eq] at h
      exact h
    have hwx : 0 ≤ x0 ∧ x0 ≤ 255 := by
      have h := wx
      simp only [Lit.wf, Bool.and_eq_true, decide_eq_true_eq] at h
      exact h
    obtain ⟨x, rfl⟩ : ∃ x : Nat, x0 = x := ⟨x0.toNat, by omega⟩
    have hx8 : x < 256 := by omega
    obtain ⟨hwa1, hwa2⟩ := hwa
    clear wa wx hwx
    have HL5 : Hid ((L ++ l3.take 60).length = L.length + m) := Lib.hid (by rw [List.length_append, HMN.out])
    go_cut [10] (fun bv wx => ∃ L : List UInt8, L.length ≤ 660 ∧ wx.ownsRow W.heap.size 5 1 bv L.length (lb.vB L) ∧ Below W.heap.size W wx)
    case first =>
      rcases (show L.length + m = 0 ∨ 0 < L.length + m by omega) with hz | hz
      · go_wp2_with fail
        go_meet
        exact ⟨L ++ l3.take 60, by rw [HL5.out]; omega, own_cast HO5.out rfl HL5.out.symm, HB5.out⟩
      · have hne : L ++ l3.take 60 ≠ [] := fun h => by have := HL5.out; rw [h] at this; simp at this; omega
        obtain ⟨g, cp, hv, hbg, hgc, hcm5, hcells, hfro⟩ := lb.own_at (own_cast HO5.out rfl HL5.out.symm) hne
        rw [HL5.out] at hv hcells hgc
        obtain ⟨rfl, rfl⟩ : ad5 = some ⟨g, 0, none⟩ ∧ cp5 = cp := by simpa using hv
        clear hv hne
        rcases (show at0 < 0 ∨ 0 ≤ at0 by omega) with hat | hat
        · go_upto_region 17 with fail
          obtain ⟨y, hy⟩ : ∃ y : Int, -(at0 + 1) = y := ⟨_, rfl⟩
          have hy0 : 0 ≤ y := by omega
          have hy1 : y ≤ 9223372036854775807 := by omega
          simp only [hy]
          clear hy hat
          obtain ⟨j, hj, hjl⟩ : ∃ j : Nat, y % ((L.length : Int) + m) = j ∧ j < L.length + m := ⟨(y % ((L.length : Int) + m)).toNat, by have := Int.emod_nonneg y (show ((L.length : Int) + m) ≠ 0 by omega); omega, by have := Int.emod_nonneg y (show ((L.length : Int) + m) ≠ 0 by omega); have := Int.emod_lt_of_pos y (show 0 < ((L.length : Int) + m) by omega); omega⟩
          have e1 := hcells j hjl
          have e2 := hfro j
          clear hcells hfro
          go_wp2_with fail
          go_meet
          exact ⟨(L ++ l3.take 60).set j (((L ++ l3.take 60)[j]?.getD 0) ^^^ UInt8.ofNat x), by rw [List.length_set, HL5.out]; omega, own_cast (flip_own HO5.out hx8) rfl (by rw [List.length_set, HL5.out]), HB5.out.setCell hbg _⟩
        · obtain ⟨j, hj, hjl⟩ : ∃ j : Nat, at0 % ((L.length : Int) + m) = j ∧ j < L.length + m := ⟨(at0 % ((L.length : Int) + m)).toNat, by have := Int.emod_nonneg at0 (show ((L.length : Int) + m) ≠ 0 by omega); omega, by have := Int.emod_nonneg at0 (show ((L.length : Int) + m) ≠ 0 by omega); have := Int.emod_lt_of_pos at0 (show 0 < ((L.length : Int) + m) by omega); omega⟩
          have e1 := hcells j hjl
          have e2 := hfro j
          clear hcells hfro
          go_wp2_with fail
          go_meet
          exact ⟨(L ++ l3.take 60).set j (((L ++ l3.take 60)[j]?.getD 0) ^^^ UInt8.ofNat x), by rw [List.length_set, HL5.out]; omega, own_cast (flip_own HO5.out hx8) rfl (by rw [List.length_set, HL5.out]), HB5.out.setCell hbg _⟩
    case rest =>
      clear HL5 HO5 HB5
      obtain ⟨L2, hL2, ho, hb⟩ := hcut
      obtain ⟨ad6, cp6, rfl, hs6⟩ := lb.own_bytes ho
      obtain ⟨N, hN⟩ : ∃ N, L2.length = N := ⟨_, rfl⟩
      have HN := Lib.hid hN
      rw [hN] at hL2
      simp only [hN]
      have HS6 := Lib.hid hs6
      have HB6 := Lib.hid hb
      clear ho hs6 hb hN
      obtain ⟨q, hq⟩ : ∃ q, (scanF L2.length L2 0).2 = q := ⟨_, rfl⟩
      have HQ := Lib.hid hq
      clear hq
      go_wp2_with (first
        | (go_at_call 45; refine (scan_calls ad6 N cp6 L2 _ HS6.out HN.out (by omega)).mono ?_; rintro e w6 ⟨lv, xs, rfl, hrx, hxs, hb6⟩; rw [HQ.out]; obtain ⟨al, cl, rfl⟩ := lb.own_shape hrx.1; have HRX := Lib.hid hrx; have HXS := Lib.hid hxs; have HBS := Lib.hid hb6; clear hrx hxs hb6)
        | (go_at_call 46; refine (rscan_calls ad6 N cp6 L2 _ (HS6.out.below HBS.out) HN.out (by omega)).mono ?_; rintro e w7 ⟨mv, ys, rfl, hry, hys, hb7⟩; rw [HQ.out]; have hyl := len_same hys HXS.out; have hry1 := hry.1; rw [hyl] at hry1; obtain ⟨am, cm, rfl⟩ := lb.own_shape hry1; have HRY := Lib.hid hry; have HYS := Lib.hid hys; have HBT := Lib.hid hb7; have HYL := Lib.hid hyl; clear hry hry1 hys hb7 hyl)
        | fail)
      have hlx : xs.length ≤ 9223372036854775807 := lb.own_max HRX.out.1
      go_loopw [18] (fun iv wr => ∃ k : Nat, k ≤ xs.length ∧ iv = .int .i64 k ∧ Below w7.heap.size w7 wr) (fun iv _ => xs.length - (intOf iv).toNat)
      case atStart => exact ⟨0, Nat.zero_le _, rfl, Below.refl _ _⟩
      case round =>
        obtain ⟨k, hk, rfl, hbw⟩ := hrel
        have HBW := Lib.hid hbw
        clear hbw
        by_cases hlt : k < xs.length
        · have hky : k < ys.length := by rw [HYL.out]; exact hlt
          have hx1 := HRX.out.later (lb.below_then HBT.out HBW.out)
          have hy1 := (HRY.out.later HBW.out).1
          rw [HYL.out] at hy1
          obtain ⟨gx, rfl⟩ := own_addr hx1.1 (by omega)
          obtain ⟨gy, rfl⟩ := own_addr hy1 (by omega)
          have e1 := rows_at hx1.1 hlt
          have e2 := rows_at hy1 hky
          obtain ⟨a8, c8, hv8, hs8⟩ := lb.own_bytes (hx1.2 _ (List.getElem_mem hlt))
          obtain ⟨a9, c9, hv9, hs9⟩ := HRY.out.2 _ (List.getElem_mem hky)
          have hbs := bs_same HYS.out HXS.out hlt hky
          rw [hv8] at e1
          rw [hv9] at e2
          rw [hbs] at e2 hs9
          have hs9' := hs9.below (lb.below_then HBT.out HBW.out)
          obtain ⟨bl, hbl⟩ : ∃ bl, (xs[k]).bs = bl := ⟨_, rfl⟩
          rw [hbl] at e1 e2 hs8 hs9'
          have hcv1 := conv_SB hs8 rfl
          have hcv2 := conv_SB hs9' rfl
          have hcd1 := fun q => conv_SB (hs8.below (lb.below_drewN wr q)) rfl
          have hcd2 := fun q => conv_SB (hs9'.below (lb.below_drewN wr q)) rfl
          clear hx1 hy1 hs8 hs9 hs9' hv8 hv9 hbs hbl
          go_wp2
          go_quiet (fail)
          go_wp2
          refine ⟨⟨k + 1, by omega, by go_num, ?_⟩, by simp [intOf]; omega⟩
          first | exact lb.drewN_of HBW.out _ | exact HBW.out
        · obtain rfl : k = xs.length := by omega
          go_wp2
          go_ret
          have c6 := HB6.out
          have c7 := lb.below_then c6 HBS.out
          have c8 := lb.below_then c7 HBT.out
          exact ⟨rfl, lb.below_then c8 HBW.out⟩
end Go.Proofs.Ytdbnfaeanngajaa.jr
