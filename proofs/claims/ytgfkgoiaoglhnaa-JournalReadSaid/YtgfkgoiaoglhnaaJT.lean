/- The walk of the law JournalRead. -/
import Derived.Test.YtgfkgoiaoglhnaaProg
import Derived.WalkKit
import Derived.ProofKit
import Derived.Lib.Hide
import Derived.WalkLawsBesides
import Derived.WalkSpells
import Derived.Deep.RegionWith
import Derived.Deep.QuietTactic
import Derived.BigQuiet
import Derived.Deep.DeepCutAuto
import Derived.Deep.CutBlock
import Derived.Test.YtgfkgoiaoglhnaaJH
namespace Go.Proofs.Ytgfkgoiaoglhnaa.jr
open Go Go.RowKit Go.ChangeShapes Go.WideShapes
set_option linter.unusedVariables false
set_option linter.unusedSimpArgs false
set_option maxRecDepth 100000 in
theorem info_u8r : (Try.prog.info? 5).map (fun i => (i.zero, i.size, i.bytes)) = some (some (.int .u8 0), 1, 1) := by kernel_rfl
set_option maxRecDepth 100000 in
set_option maxHeartbeats 8000000 in
theorem journalread_walk {H : Type} {enc : TypeId × Value → H} (W : World) (base : Nat)
    (v0 : Value) (d0 : DataW H) (p0 : List MemPlace) (k0 : Value.okWide Try.prog W .any base 64 v0) (h0 : DataW.Trod enc Try.prog W 0 (fun _ => true) true 64 v0 d0 p0)
    (v1 : Value) (d1 : DataW H) (p1 : List MemPlace) (k1 : Value.okWide Try.prog W .any base 3 v1) (h1 : DataW.Trod enc Try.prog W 0 (fun _ => true) true 3 v1 d1 p1)
    (v2 : Value) (d2 : DataW H) (p2 : List MemPlace) (k2 : Value.okWide Try.prog W .any base 5 v2) (h2 : DataW.Trod enc Try.prog W 0 (fun _ => true) true 5 v2 d2 p2)
    (v3 : Value) (d3 : DataW H) (p3 : List MemPlace) (k3 : Value.okWide Try.prog W .any base 51 v3) (h3 : DataW.Trod enc Try.prog W 0 (fun _ => true) true 51 v3 d3 p3)
    (v4 : Value) (d4 : DataW H) (p4 : List MemPlace) (k4 : Value.okWide Try.prog W .any base 4 v4) (h4 : DataW.Trod enc Try.prog W 0 (fun _ => true) true 4 v4 d4 p4) :
    Calls Try.prog 9 #[v0, v1, v2, v3, v4] W fun e w' => e = .returned (.bool true) ∧ Below W.heap.size W w' := by
  obtain ⟨e, a1, a2, a3, n1, c1, n2, c2, n3, c3, rfl, heb, hat⟩ := entry_arg k0 h0
  obtain ⟨at0, rfl, _, _, wa⟩ := open_int Try.underlying3 k1 h1
  obtain ⟨x0, rfl, _, _, wx⟩ := open_int Try.underlying5 k2 h2
  obtain ⟨ad3, l3, cp3, rfl, hs3⟩ := lb.bytes_of_trod Try.underlying51 Try.underlying5 cells_u8 k3 h3
  obtain ⟨drop, rfl, _, _⟩ := open_bool Try.underlying4 k4 h4
  clear k0 k1 k2 k3 k4 h0 h1 h2 h3 h4
  obtain ⟨i0, hi, hz0, hz1, hz2⟩ := info_parts info_u8r
  have HS3 := Lib.hid hs3
  have HEB := Lib.hid heb
  obtain ⟨W0, hW0⟩ : ∃ W0, W0 = W.alloc (.cells (enCells e a1 a2 a3 n1 c1 n2 c2 n3 c3) 64) := ⟨_, rfl⟩
  obtain ⟨Z, hZ⟩ : ∃ Z, Z = W.heap.size := ⟨_, rfl⟩
  have hBW : Below W.heap.size W W0 := by rw [hW0]; exact lb.below_alloc _ _
  have hblk : W0.heap[Z]? = some (.cells (enCells e a1 a2 a3 n1 c1 n2 c2 n3 c3) 64 (0, 0)) := by rw [hW0]; exact blk_new _ _ _ hZ
  have HBLK := Lib.hid hblk
  have HBW := Lib.hid hBW
  have HAT := Lib.hid (hat.below hBW)
  have HZ := Lib.hid hZ
  have HW0 := Lib.hid hW0
  clear hs3 heb hat hW0 hBW hblk hZ
  unfold enCells
  go_enter Try.func9, Try.ntmps9
  go_upto_region 0 with fail
  go_cut [5, 10] (fun pv rv wx => pv = .pointer (some ⟨Z, 0, none⟩) ∧ rv = .bool false ∧ wx = W0)
  case first =>
    go_wp2_with fail
    go_meet
    have hw0 := HW0.out
    unfold enCells at hw0
    rw [← hw0, HZ.out]
    exact ⟨rfl, rfl, rfl⟩
  case rest =>
  obtain ⟨rfl, rfl, rfl⟩ := hcut
  go_upto_if 22 with (first
    | (go_at_call 30; refine (bgjournal.begun _).mono ?_; rintro en w1 ⟨rfl, hb1⟩; have HB1 := Lib.hid hb1; obtain ⟨q0, q1, q2, q3, q4, q5, q6, q7⟩ := en_cells (below_blk hb1 HBLK.out); clear hb1)
    | (go_at_call 33; refine (cutentry_calls w1 e a1 a2 a3 n1 c1 n2 c2 n3 c3 HEB.out (HAT.out.below HB1.out)).mono ?_; rintro en w2 ⟨v, rfl, ho2, hb2⟩; have HO2 := Lib.hid ho2; have HB2 := Lib.hid (lb.below_then HB1.out hb2); clear ho2 hb2 q0 q1 q2 q3 q4 q5 q6 q7)
    | (go_at_call 32; refine (put_own w1 w2 (cutE e) v (cutE_ok e HEB.out) HO2.out).mono ?_; rintro en w3 ⟨u, rfl, ho3, hb3⟩; have HO3 := Lib.hid ho3; have HB3 := Lib.hid (lb.below_then HB2.out hb3); have HG3 := Lib.hid hb3; clear ho3 hb3)
    | fail)
  go_cut [12] (fun bv wx => ∃ L : List UInt8, L.length ≤ 8192 ∧ wx.ownsRow W.heap.size 5 1 bv L.length (lb.vB L) ∧ Below W.heap.size W wx)
  case first =>
    cases drop
    · go_wp2_with fail
      go_meet
      exact ⟨putL (cutE e), putL_short _, lb.own_base HO3.out (Nat.le_trans HBW.out.size HB2.out.size), lb.below_then HBW.out HB3.out⟩
    · obtain ⟨q0, _⟩ := en_cells (below_blk HB3.out HBLK.out)
      have hks := HEB.out.key
      have hcs := ac.cutS_size e.key 290
      go_wp2_with (first
        | (go_at_call 34; refine (ac.cut_calls e.key 290 _ (by omega) hks).mono ?_; rintro en w4 ⟨rfl, rfl⟩)
        | (go_at_call 36; refine (drop_key _ (ac.cutS e.key 290) (by omega)).mono ?_; rintro en w5 ⟨u5, rfl, ho5, hb5⟩; have HO5 := Lib.hid ho5; have HB5 := Lib.hid hb5; clear ho5 hb5)
        | fail)
      go_meet
      exact ⟨dropL (ac.cutS e.key 290), dropL_short _ (by omega), lb.own_base HO5.out (Nat.le_trans HBW.out.size HB3.out.size), lb.below_then HBW.out (lb.below_then HB3.out HB5.out)⟩
  case rest =>
    obtain ⟨L, hL, ho, hb⟩ := hcut
    obtain ⟨adb, cpb, rfl, hsb⟩ := lb.own_bytes ho
    have HO := Lib.hid ho
    have HB := Lib.hid hb
    have HSB := Lib.hid hsb
    have hl3 := HS3.out.le
    have hm3 := HS3.out.max
    have hmn : (l3.take 20).length = min l3.length 20 := by simp; omega
    obtain ⟨m, hm⟩ : ∃ m, min l3.length 20 = m := ⟨_, rfl⟩
    have hm20 : m ≤ 20 := by omega
    rw [hm] at hmn
    have hsh := short_calls ad3 l3.length cp3 20
    rw [hm] at hsh
    have HSH := Lib.hid hsh
    have HMN := Lib.hid hmn
    clear hsh hmn hm ho hb hsb HO2 HB2 HO3 HB3 HG3 HB1
    go_upto_if 34 with (first
      | (at_builtin; refine lb.catB rfl (.const (.slice none 0 0)) (.tmp 27) 51 rfl 5 i0 Try.underlying51 hi hz0 hz1 hz2 W wc _ 0 [] L adb L.length cpb rfl rfl (lb.own_nil _ _ _ _) HB.out rfl rfl HSB.out (by omega) ?_; intro v5 w5 ho5 hb5 hk5; rw [Nat.zero_add, List.nil_append] at ho5; obtain ⟨ad5, cp5, rfl⟩ := lb.own_shape ho5; have HO5 := Lib.hid ho5; have HB5 := Lib.hid hb5; clear ho5 hb5 hk5)
      | (go_at_call 39; refine (HSH.out w5 (by omega) (by decide) hl3).mono ?_; rintro en w2 ⟨rfl, rfl⟩)
      | (at_builtin; refine lb.catB rfl (.tmp 28) (.tmp 30) 51 rfl 5 i0 Try.underlying51 hi hz0 hz1 hz2 W w5 _ L.length L (l3.take 20) ad3 m cp3 rfl rfl HO5.out HB5.out rfl HMN.out (sb_take (HS3.out.below HB5.out) 20) (by omega) ?_; intro v6 w6 ho6 hb6 hk6; obtain ⟨ad6, cp6, rfl⟩ := lb.own_shape ho6; have HO6 := Lib.hid ho6; have HB6 := Lib.hid hb6; clear ho6 hb6 hk6)
      | fail)
    have hwa : -9223372036854775808 ≤ at0 ∧ at0 ≤ 9223372036854775807 := by
      have h := wa
      simp only [Lit.wf, Bool.and_eq_true, decide_eq_true_eq] at h
      exact h
    have hwx : 0 ≤ x0 ∧ x0 ≤ 255 := by
      have h := wx
      simp only [Lit.wf, Bool.and_eq_true, decide_eq_true_eq] at h
      exact h
    obtain ⟨x, rfl⟩ : ∃ x : Nat, x0 = x := ⟨x0.toNat, by omega⟩
    have hx8 : x < 256 := by omega
    obtain ⟨hwa1, hwa2⟩ := hwa
    clear wa wx hwx
    have HL5 : Hid ((L ++ l3.take 20).length = L.length + m) := Lib.hid (by rw [List.length_append, HMN.out])
    go_cut [12] (fun bv wx => ∃ L : List UInt8, L.length ≤ 8212 ∧ wx.ownsRow W.heap.size 5 1 bv L.length (lb.vB L) ∧ Below W.heap.size W wx)
    case first =>
      rcases (show L.length + m = 0 ∨ 0 < L.length + m by omega) with hz | hz
      · go_wp2_with fail
        go_meet
        exact ⟨L ++ l3.take 20, by rw [HL5.out]; omega, lb.own_cast HO6.out rfl HL5.out.symm, HB6.out⟩
      · have hne : L ++ l3.take 20 ≠ [] := fun h => by have := HL5.out; rw [h] at this; simp at this; omega
        obtain ⟨g, cp, hv, hbg, hgc, hcm5, hcells, hfro⟩ := lb.own_at (lb.own_cast HO6.out rfl HL5.out.symm) hne
        rw [HL5.out] at hv hcells hgc
        obtain ⟨rfl, rfl⟩ : ad6 = some ⟨g, 0, none⟩ ∧ cp6 = cp := by simpa using hv
        clear hv hne
        rcases (show at0 < 0 ∨ 0 ≤ at0 by omega) with hat | hat
        · go_upto_region 11 with fail
          obtain ⟨y, hy⟩ : ∃ y : Int, -(at0 + 1) = y := ⟨_, rfl⟩
          have hy0 : 0 ≤ y := by omega
          have hy1 : y ≤ 9223372036854775807 := by omega
          simp only [hy]
          clear hy hat
          obtain ⟨j, hj, hjl⟩ : ∃ j : Nat, y % ((L.length : Int) + m) = j ∧ j < L.length + m := ⟨(y % ((L.length : Int) + m)).toNat, by have := Int.emod_nonneg y (show ((L.length : Int) + m) ≠ 0 by omega); omega, by have := Int.emod_nonneg y (show ((L.length : Int) + m) ≠ 0 by omega); have := Int.emod_lt_of_pos y (show 0 < ((L.length : Int) + m) by omega); omega⟩
          have e1 := hcells j hjl
          have e2 := hfro j
          clear hcells hfro
          go_wp2_with fail
          go_meet
          exact ⟨(L ++ l3.take 20).set j (((L ++ l3.take 20)[j]?.getD 0) ^^^ UInt8.ofNat x), by rw [List.length_set, HL5.out]; omega, lb.own_cast (flip_own HO6.out hx8) rfl (by rw [List.length_set, HL5.out]), HB6.out.setCell hbg _⟩
        · obtain ⟨j, hj, hjl⟩ : ∃ j : Nat, at0 % ((L.length : Int) + m) = j ∧ j < L.length + m := ⟨(at0 % ((L.length : Int) + m)).toNat, by have := Int.emod_nonneg at0 (show ((L.length : Int) + m) ≠ 0 by omega); omega, by have := Int.emod_nonneg at0 (show ((L.length : Int) + m) ≠ 0 by omega); have := Int.emod_lt_of_pos at0 (show 0 < ((L.length : Int) + m) by omega); omega⟩
          have e1 := hcells j hjl
          have e2 := hfro j
          clear hcells hfro
          go_wp2_with fail
          go_meet
          exact ⟨(L ++ l3.take 20).set j (((L ++ l3.take 20)[j]?.getD 0) ^^^ UInt8.ofNat x), by rw [List.length_set, HL5.out]; omega, lb.own_cast (flip_own HO6.out hx8) rfl (by rw [List.length_set, HL5.out]), HB6.out.setCell hbg _⟩
    case rest =>
      clear HL5 HO6 HB6 HO5 HB5 HO HSB HB
      obtain ⟨L2, hL2, ho, hb⟩ := hcut
      obtain ⟨ad6, cp6, rfl, hs6⟩ := lb.own_bytes ho
      obtain ⟨N, hN⟩ : ∃ N, L2.length = N := ⟨_, rfl⟩
      have HN := Lib.hid hN
      rw [hN] at hL2
      simp only [hN]
      have HS6 := Lib.hid hs6
      have HB6 := Lib.hid hb
      clear ho hs6 hb hN
      cases hok : readOk L2
      · have HR := Lib.hid (read_bad wc ad6 N cp6 L2 HN.out (by omega) HS6.out hok)
        clear hok
        go_wp2_with (first
          | (go_at_call 35; refine HR.out.mono ?_; rintro en w7 ⟨rfl, hb7⟩; have HB7 := Lib.hid (lb.below_then HB6.out hb7); clear hb7)
          | (go_at_call 17; refine (bgjournal.code _).mono ?_; rintro en w8 ⟨rfl, hb8⟩; have q0 := new_cell hb8 0 _ rfl; have HB8 := Lib.hid (lb.below_then (HB7.out.alloc HB7.out.size _) hb8); clear hb8)
          | fail)
        go_ret
        exact ⟨rfl, HB8.out⟩
      · obtain ⟨E, hE⟩ : ∃ E, readE L2 = E := ⟨_, rfl⟩
        by_cases hkk : kindL L2 = 1
        · obtain ⟨hen, hput⟩ := read_put hok hkk
          rw [hE] at hen hput
          have HEN := Lib.hid hen
          have HPUT := Lib.hid hput
          have HR := Lib.hid (read_good wc ad6 N cp6 L2 HN.out (by omega) HS6.out hok E hE true (by simp [hkk]))
          clear hok hkk hE hen hput
          go_upto_region 16 with (first
            | (go_at_call 35; refine HR.out.mono ?_; rintro en w7 ⟨b1, m1, k1, b2, m2, k2, b3, m3, k3, rfl, ho7, hb7⟩; have HO7 := Lib.hid ho7; have HB7 := Lib.hid (lb.below_then HB6.out hb7); have HS7 := Lib.hid (HS6.out.below hb7); clear hb7 ho7)
            | fail)
          have hcd := conv_SB ((HS7.out.below (lb.below_alloc w7 (.cells #[.string E.key, .int .i64 E.code, .slice b1 m1 k1, .slice b2 m2 k2, .int .i64 E.port, .int .i64 E.life, .int .i64 E.exp, .slice b3 m3 k3] 64))).below ((Below.refl _ _).drew)) HN.out
          go_region_with (((go_at_call 32; refine (put_sb wc _ E _ L2 N HEN.out ((HO7.out.below (lb.below_alloc w7 _)).below ((Below.refl _ _).drew)) HPUT.out HN.out).mono ?_; rintro en w9 ⟨ad9, c9, rfl, ho9, hs9, hb9⟩; have hc1 := conv_SB hs9 HN.out; have hc2 := conv_SB ((HS7.out.below (lb.below_alloc w7 _)).below (((Below.refl _ _).drew).trans hb9)) HN.out; have HB9 := Lib.hid hb9)))
          all_goals
            go_wp2
            go_ret
            exact ⟨rfl, lb.below_then ((HB7.out.alloc HB7.out.size _).drew) HB9.out⟩
        · obtain ⟨hks, hdrop⟩ := read_drop hok hkk
          rw [hE] at hks hdrop
          have HKS := Lib.hid hks
          have HDROP := Lib.hid hdrop
          have HR := Lib.hid (read_good wc ad6 N cp6 L2 HN.out (by omega) HS6.out hok E hE false (by simp [hkk]))
          clear hok hkk hE hks hdrop
          go_upto_region 17 with (first
            | (go_at_call 35; refine HR.out.mono ?_; rintro en w7 ⟨b1, m1, k1, b2, m2, k2, b3, m3, k3, rfl, ho7, hb7⟩; have HO7 := Lib.hid ho7; have HB7 := Lib.hid (lb.below_then HB6.out hb7); have HS7 := Lib.hid (HS6.out.below hb7); clear hb7 ho7)
            | fail)
          have hcd := conv_SB ((HS7.out.below (lb.below_alloc w7 (.cells #[.string E.key, .int .i64 E.code, .slice b1 m1 k1, .slice b2 m2 k2, .int .i64 E.port, .int .i64 E.life, .int .i64 E.exp, .slice b3 m3 k3] 64))).below ((Below.refl _ _).drew)) HN.out
          go_region_with (((go_at_call 36; refine (drop_sb _ E.key L2 N (by have := HKS.out; omega) HDROP.out HN.out).mono ?_; rintro en w9 ⟨ad9, c9, rfl, ho9, hs9, hb9⟩; have hc1 := conv_SB hs9 HN.out; have hc2 := conv_SB ((HS7.out.below (lb.below_alloc w7 _)).below (((Below.refl _ _).drew).trans hb9)) HN.out; have HB9 := Lib.hid hb9)))
          all_goals
            go_wp2
            go_ret
            exact ⟨rfl, lb.below_then ((HB7.out.alloc HB7.out.size _).drew) HB9.out⟩
end Go.Proofs.Ytgfkgoiaoglhnaa.jr
