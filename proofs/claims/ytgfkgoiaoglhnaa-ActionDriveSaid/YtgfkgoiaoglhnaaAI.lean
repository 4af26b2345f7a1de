/- The walk of the law ActionDrive. -/
import Derived.Test.YtgfkgoiaoglhnaaProg
import Derived.WalkKit
import Derived.ProofKit
import Derived.Lib.Hide
import Derived.WalkLawsBesides
import Derived.WalkSpells
import Derived.Deep.RegionWith
import Derived.Deep.QuietTactic
import Derived.BigQuiet
import Derived.Deep.DeepCutAuto
import Derived.Deep.CutBlock
import Derived.RegionTactic
import Derived.ChangeAlike
import Derived.Deep.RegionHeld3
import Derived.Test.YtgfkgoiaoglhnaaAG
import Derived.Test.YtgfkgoiaoglhnaaAH
import Derived.Test.YtgfkgoiaoglhnaaBA
namespace Go.Proofs.Ytgfkgoiaoglhnaa.ac
open Go Go.RowKit Go.ChangeShapes Go.WideShapes
set_option linter.unusedVariables false
set_option linter.unusedSimpArgs false
set_option maxRecDepth 100000 in
theorem info_int : (Try.prog.info? 3).map (fun i => (i.zero, i.size, i.bytes)) = some (some (.int .i64 0), 1, 8) := by kernel_rfl
set_option maxRecDepth 100000 in
theorem info_str : (Try.prog.info? 9).map (fun i => (i.zero, i.size, i.bytes)) = some (some (.string ⟨#[]⟩), 1, 16) := by kernel_rfl
set_option maxRecDepth 100000 in
set_option maxHeartbeats 8000000 in
theorem actiondrive_walk {H : Type} {enc : TypeId × Value → H} (W : World) (base : Nat)
    (v0 : Value) (d0 : DataW H) (p0 : List MemPlace) (k0 : Value.okWide Try.prog W .any base 22 v0) (h0 : DataW.Trod enc Try.prog W 0 (fun _ => true) true 22 v0 d0 p0)
    (v1 : Value) (d1 : DataW H) (p1 : List MemPlace) (k1 : Value.okWide Try.prog W .any base 23 v1) (h1 : DataW.Trod enc Try.prog W 0 (fun _ => true) true 23 v1 d1 p1) :
    Calls Try.prog 3 #[v0, v1] W fun e w' => e = .returned (.bool true) ∧ Below W.heap.size W w' := by
  obtain ⟨i0, hi, hz0, hz1, hz2⟩ := info_parts info_int
  obtain ⟨i1, hj, hy0, hy1, hy2⟩ := info_parts info_str
  obtain ⟨ad, n, c, S0, rfl, hS0, hn0, hsz, hin⟩ := steps_of_trod k0 h0
  obtain ⟨ad2, n2, c2, Z, rfl, hZ, hn2, hiz, _⟩ := ints_of_trod k1 h1
  clear k0 k1 h0 h1
  have HL := Lib.hid hS0
  have HSZ := Lib.hid hsz
  have HIN := Lib.hid hin
  have HZ := Lib.hid hZ
  have HIZ := Lib.hid hiz
  clear hS0 hsz hin hZ hiz
  obtain ⟨S, hS⟩ : ∃ S, cutL S0 = S := ⟨_, rfl⟩
  have HS := Lib.hid hS
  obtain ⟨N, hN⟩ : ∃ N, S.length = N := ⟨_, rfl⟩
  have HN := Lib.hid hN
  have HB0 := Lib.hid (lb.below_alloc W (.cells #[.slice ad2 n2 c2] 23))
  have HC0 : Hid ((W.alloc (.cells #[.slice ad2 n2 c2] 23)).cell? ⟨W.heap.size, 0, none⟩ = some (.slice ad2 n2 c2)) := Lib.hid (World.cell?_alloc_mark _ _ _ _ 0)
  clear hS hN
  cases hmay : mayB S
  · have HM := Lib.hid hmay
    clear hmay
    go_enter Try.func3, Try.ntmps3
    go_wp2_with (first
      | (go_at_call 10; refine (bgaction.begun _).mono ?_; rintro e w1 ⟨rfl, hb1⟩; have HB1 := Lib.hid (lb.below_then HB0.out hb1); clear hb1)
      | (go_at_call 11; refine (lawcut_calls ad n c S0 _ HL.out hn0 HSZ.out (stepsin_below HIN.out HB1.out)).mono ?_; rintro e w2 ⟨v, rfl, ho2, hb2⟩; rw [HS.out, HN.out] at ho2; obtain ⟨al, cl, rfl⟩ := lb.own_shape ho2; have HO2 := Lib.hid ho2; have HB2 := Lib.hid (lb.below_then HB1.out hb2); clear ho2 hb2)
      | (go_at_call 12; refine (compile_calls _ _ N _ S HN.out HO2.out).mono ?_; rintro e w3 ⟨h3, hb3⟩; rw [HM.out] at h3; simp only [true_and, Bool.false_eq_true, false_and, or_false] at h3; subst h3; have HO3 := Lib.hid (lb.own_later HO2.out hb3); have HB3 := Lib.hid (lb.below_then HB2.out hb3); clear hb3)
      | (go_at_call 13; refine (may_calls _ _ N _ S HN.out HO3.out).mono ?_; rintro e w4 ⟨rfl, hw4⟩; obtain rfl := hw4; rw [HM.out])
      | fail)
    go_ret
    exact ⟨rfl, HB3.out⟩
  · have HM := Lib.hid hmay
    have hlen := mayB_len hmay
    rw [HN.out] at hlen
    obtain ⟨hN1, hN8⟩ := hlen
    clear hmay
    go_enter Try.func3, Try.ntmps3
    go_upto_block 0 with (first
      | (go_at_call 10; refine (bgaction.begun _).mono ?_; rintro e w1 ⟨rfl, hb1⟩; have HB1 := Lib.hid (lb.below_then HB0.out hb1); have HC1 := Lib.hid ((hb1.cell (p := ⟨W.heap.size, 0, none⟩) (World.block_lt_of_cell? _ _ HC0.out)).trans HC0.out); clear hb1)
      | (go_at_call 11; refine (lawcut_calls ad n c S0 _ HL.out hn0 HSZ.out (stepsin_below HIN.out HB1.out)).mono ?_; rintro e w2 ⟨v, rfl, ho2, hb2⟩; rw [HS.out, HN.out] at ho2; obtain ⟨g, cl, rfl⟩ := steps_addr ho2 (by omega); have HC2 := Lib.hid ((hb2.cell (p := ⟨W.heap.size, 0, none⟩) (World.block_lt_of_cell? _ _ HC1.out)).trans HC1.out); have HO2 := Lib.hid ho2; have HB2 := Lib.hid (lb.below_then HB1.out hb2); clear ho2 hb2)
      | (go_at_call 12; refine (compile_calls _ _ N _ S HN.out HO2.out).mono ?_; rintro e w3 ⟨h3, hb3⟩; rw [HM.out] at h3; simp only [true_and, Bool.true_eq_false, false_and, false_or] at h3; obtain ⟨tb, rfl, ht⟩ := h3; have HC3 := Lib.hid ((hb3.cell (p := ⟨W.heap.size, 0, none⟩) (World.block_lt_of_cell? _ _ HC2.out)).trans HC2.out); have HT := Lib.hid ht; have HO3 := Lib.hid (lb.own_later HO2.out hb3); have HB3 := Lib.hid (lb.below_then HB2.out hb3); clear ht hb3)
      | (go_at_call 13; refine (may_calls _ _ N _ S HN.out HO3.out).mono ?_; rintro e w4 ⟨rfl, hw4⟩; obtain rfl := hw4; rw [HM.out])
      | fail)
    have HCB : Hid (∀ w, Below w4.heap.size w4 w → w.cell? ⟨W.heap.size, 0, none⟩ = some (.slice ad2 n2 c2)) := Lib.hid (fun w hb => (hb.cell (p := ⟨W.heap.size, 0, none⟩) (World.block_lt_of_cell? _ _ HC3.out)).trans HC3.out)
    have HCODE : Hid (∀ (w : World) (i : Nat), i ≤ 1000 → Below w4.heap.size w4 w → Calls Try.prog 14 #[.int .i64 (i : Int), .pointer (some ⟨W.heap.size, 0, none⟩)] w fun e w' => e = .returned (.int .i64 (cod Z i : Int)) ∧ w' = w) := Lib.hid (fun w i hi hb => code_calls w _ n2 c2 i ad2 Z hi HZ.out hn2 (HCB.out w hb) (intsin_below HIZ.out (lb.below_then HB3.out hb)))
    go_cut [10, 12] (fun dv mv wx => ∃ L : Nat, 1 ≤ L ∧ L ≤ N ∧ wx.ownsRow w4.heap.size 9 1 dv L (vS (S.take L)) ∧ wx.ownsRow w4.heap.size 3 1 mv (keptL S Z L).length (vN (keptL S Z L)) ∧ Below w4.heap.size w4 wx ∧ (∀ j (h : j < S.length), j + 1 < L → (S[j]).act (cod Z j) ≠ 1) ∧ (∀ j (h : j < S.length), L = j + 1 → L < N → (S[j]).act (cod Z j) = 1))
    case first =>
      go_wp2_with fail
      go_loopw [10, 12, 14] (fun dv mv iv wr => ∃ k : Nat, k ≤ N ∧ iv = .int .i64 (k : Int) ∧ wr.ownsRow w4.heap.size 9 1 dv k (vS (S.take k)) ∧ wr.ownsRow w4.heap.size 3 1 mv (keptL S Z k).length (vN (keptL S Z k)) ∧ Below w4.heap.size w4 wr ∧ (∀ j (h : j < S.length), j < k → (S[j]).act (cod Z j) ≠ 1)) (fun _ _ iv _ => N - (intOf iv).toNat)
      case atStart => exact ⟨0, Nat.zero_le _, rfl, by simpa [vS] using World.ownsRow_nil _ _ _ _, by simpa [keptL, vN] using World.ownsRow_nil _ _ _ _, Below.refl _ _, fun j h hj => absurd hj (Nat.not_lt_zero _)⟩
      case round =>
        obtain ⟨k, hk, rfl, hod, hom, hbr, hne⟩ := hrel
        have HNE := Lib.hid hne
        have HBR := Lib.hid hbr
        obtain ⟨al, cl, rfl⟩ := lb.own_shape hod
        obtain ⟨am, cm, rfl⟩ := lb.own_shape hom
        have HOD := Lib.hid hod
        have HOM := Lib.hid hom
        have hkl := keptL_len S Z k
        obtain ⟨M, hM⟩ : ∃ M, (keptL S Z k).length = M := ⟨_, rfl⟩
        have HML := Lib.hid hM
        rw [hM] at HOM hkl
        simp only [hM]
        clear hne hbr hod hom hM
        rcases (show k < N ∨ k = N by omega) with hlt | rfl
        · have hkS : k < S.length := by rw [HN.out]; exact hlt
          obtain ⟨x, hx⟩ : ∃ x, S[k] = x := ⟨_, rfl⟩
          have HX := Lib.hid hx
          obtain ⟨e0, e1, e2, e3, e4⟩ := steps5 (lb.own_later HO3.out HBR.out) HN.out hkS hx
          have hsn : vS (S.take (k + 1)) = vS (S.take k) ++ [.string x.src] := by
            rw [List.take_succ_eq_append_getElem hkS, hx]
            simp [vS]
          have HSN := Lib.hid hsn
          obtain ⟨q, hq⟩ : ∃ q, cod Z k = q := ⟨_, rfl⟩
          have hq4 : q < 4 := hq ▸ cod_lt Z k
          have HQ := Lib.hid hq
          obtain ⟨a, ha⟩ : ∃ a, x.act q = a := ⟨_, rfl⟩
          have HA := Lib.hid ha
          clear hx hsn hq ha
          go_upto_region 15 with (first
            | (at_builtin; refine lb.app1 rfl (.tmp 48) (.tmp 54) 34 rfl 9 i1 (.string ⟨#[]⟩) 1 16 Try.underlying34 hj hy0 hy1 hy2 rfl (by decide) w4 wr (.slice al k cl) k (vS (S.take k)) [.string x.src] rfl HOD.out HBR.out rfl rfl (by intro u hu; simp at hu; subst hu; rfl) (by omega) (by omega) ?_; intro v6 w6 ho6 hb6 hk6; have HO6 := Lib.hid ho6; have HB6 := Lib.hid hb6; have HM6 := Lib.hid (hk6.own HOM.out (by decide)); obtain ⟨e0, e1, e2, e3, e4⟩ := steps5 (lb.own_later HO3.out hb6) HN.out hkS HX.out; have hgl : g < w6.heap.size := World.block_lt_of_cell? _ _ e0; clear ho6 hb6 hk6)
            | fail)
          go_cut [15] (fun dv wx => dv = .int .i64 a ∧ Below w6.heap.size w6 wx)
          case first =>
            have hgl1 : g < w6.heap.size + 1 := by omega
            have HBA := Lib.hid (lb.below_alloc w6 (.cells #[.int .i64 0, .int .i64 1, .int .i64 2, .int .i64 3] 3))
            rcases (show q = 0 ∨ q = 1 ∨ q = 2 ∨ q = 3 by omega) with rfl | rfl | rfl | rfl
            all_goals (
              go_region_with ((go_at_call 14; refine (HCODE.out _ k (by omega) ?hb).mono ?_; (case hb => first | exact lb.drewN_of HB6.out 1 | exact lb.drewN_of (HB6.out.alloc HB6.out.size _) 1 | exact (HB6.out.alloc HB6.out.size _) | exact HB6.out); rintro e w8 ⟨rfl, hw8⟩; subst hw8; rw [HQ.out]))
              all_goals (go_wp2_with fail; go_meet; exact ⟨congrArg (Value.int .i64) HA.out, lb.drewN_of HBA.out 1⟩))
          case rest =>
            obtain ⟨rfl, hbc⟩ := hcut
            have HB7 := Lib.hid (lb.below_then HB6.out hbc)
            have HO7 := Lib.hid (lb.own_later HO6.out hbc)
            have HM7 := Lib.hid (lb.own_later HM6.out hbc)
            have hact : ∀ (h : k < S.length), (S[k]).act (cod Z k) = a := fun h => by rw [HX.out, HQ.out]; exact HA.out
            have hkb : keptB S Z k = (decide (q = 0) && decide (a ≠ 2)) := by
              unfold keptB
              rw [List.getD_eq_getElem?_getD, List.getElem?_eq_getElem hkS, Option.getD_some, hact hkS, HQ.out]
            have HACT := Lib.hid hact
            have hks : keptL S Z (k + 1) = keptL S Z k ++ (if (decide (q = 0) && decide (a ≠ 2)) = true then [k] else []) := by
              rw [keptL, hkb]
            have HKS := Lib.hid hks
            clear hbc hact hkb hks
            have hall : Hid (∀ j (h : j < S.length), j < k → (S[j]).act (cod Z j) ≠ 1) := HNE
            rcases (show (q = 0 ∧ a ≠ 2) ∨ ¬ (q = 0 ∧ a ≠ 2) by omega) with ⟨g1, g2⟩ | g
            · have hk2 : keptL S Z (k + 1) = keptL S Z k ++ [k] := by rw [HKS.out]; simp [g1, g2]
              have HK2 := Lib.hid hk2
              have hl2 : (keptL S Z (k + 1)).length = M + 1 := by rw [hk2]; simp; exact HML.out
              have HL2 := Lib.hid hl2
              have hv2 : vN (keptL S Z k) ++ [.int .i64 (k : Int)] = vN (keptL S Z (k + 1)) := by rw [hk2]; simp [vN]
              have HV2 := Lib.hid hv2
              have b2 : (a != 2) = true := by simp [g2]
              subst g1
              clear hk2 hl2 hv2
              by_cases h1 : a = 1
              · have b1 : (a == 1) = true := by simp [h1]
                go_wp2_with (first | (go_at_call 14; refine (HCODE.out _ k (by omega) HB7.out).mono ?_; rintro e w8 ⟨rfl, hw8⟩; obtain rfl := hw8; rw [HQ.out]) | (at_builtin; refine lb.app1 rfl (.tmp 76) (.tmp 78) 23 rfl 3 i0 (.int .i64 0) 1 8 Try.underlying23 hi hz0 hz1 hz2 rfl (by decide) w4 _ (.slice am M cm) M (vN (keptL S Z k)) [.int .i64 (k : Int)] rfl HM7.out HB7.out rfl rfl (by intro u hu; simp at hu; subst hu; rfl) (by omega) (by omega) ?_; intro v9 w9 ho9 hb9 hk9; have HM9 := Lib.hid ho9; have HB9 := Lib.hid hb9; have HO9 := Lib.hid (hk9.own HO7.out (by decide)); clear ho9 hb9 hk9) | fail)
                go_meet
                exact ⟨k + 1, by omega, by omega, lb.own_cast HO9.out HSN.out.symm rfl, lb.own_cast HM9.out HV2.out HL2.out.symm, HB9.out, fun j h hj => HNE.out j h (by omega), fun j h hj _ => by have e : k = j := (by omega); subst e; exact (HACT.out h).trans h1⟩
              · have b1 : (a == 1) = false := by simp [h1]
                go_wp2_with (first | (go_at_call 14; refine (HCODE.out _ k (by omega) HB7.out).mono ?_; rintro e w8 ⟨rfl, hw8⟩; obtain rfl := hw8; rw [HQ.out]) | (at_builtin; refine lb.app1 rfl (.tmp 76) (.tmp 78) 23 rfl 3 i0 (.int .i64 0) 1 8 Try.underlying23 hi hz0 hz1 hz2 rfl (by decide) w4 _ (.slice am M cm) M (vN (keptL S Z k)) [.int .i64 (k : Int)] rfl HM7.out HB7.out rfl rfl (by intro u hu; simp at hu; subst hu; rfl) (by omega) (by omega) ?_; intro v9 w9 ho9 hb9 hk9; have HM9 := Lib.hid ho9; have HB9 := Lib.hid hb9; have HO9 := Lib.hid (hk9.own HO7.out (by decide)); clear ho9 hb9 hk9) | fail)
                refine ⟨⟨k + 1, by omega, by go_num, lb.own_cast HO9.out HSN.out.symm rfl, lb.own_cast HM9.out HV2.out HL2.out.symm, HB9.out, fun j h hj => ?_⟩, by simp [intOf]; omega⟩
                rcases (show j < k ∨ j = k by omega) with h' | rfl
                · exact HNE.out j h h'
                · rw [HACT.out h]; exact h1
            · have hk2 : keptL S Z (k + 1) = keptL S Z k := by
                rw [HKS.out]
                have : (decide (q = 0) && decide (a ≠ 2)) = false := by
                  rcases (show q ≠ 0 ∨ a = 2 by omega) with h | h <;> simp [h]
                rw [this]
                simp
              have HK2 := Lib.hid hk2
              clear hk2
              have hv2 : Hid (vN (keptL S Z k) = vN (keptL S Z (k + 1)) ∧ M = (keptL S Z (k + 1)).length) := Lib.hid (by rw [HK2.out]; exact ⟨rfl, HML.out.symm⟩)
              have FB : Hid (∀ w, w = wc → a = 1 → ∃ L : Nat, 1 ≤ L ∧ L ≤ N ∧ w.ownsRow w4.heap.size 9 1 v6 L (vS (S.take L)) ∧ w.ownsRow w4.heap.size 3 1 (.slice am M cm) (keptL S Z L).length (vN (keptL S Z L)) ∧ Below w4.heap.size w4 w ∧ (∀ j (h : j < S.length), j + 1 < L → (S[j]).act (cod Z j) ≠ 1) ∧ (∀ j (h : j < S.length), L = j + 1 → L < N → (S[j]).act (cod Z j) = 1)) := Lib.hid (by
                intro w hw h1
                subst hw
                refine ⟨k + 1, by omega, by omega, lb.own_cast HO7.out HSN.out.symm rfl, lb.own_cast HM7.out hv2.out.1 hv2.out.2, HB7.out, fun j h hj => HNE.out j h (by omega), fun j h hj _ => ?_⟩
                obtain rfl : k = j := by omega
                exact (HACT.out h).trans h1)
              have FC : Hid (∀ w, w = wc → a ≠ 1 → (∃ k' : Nat, k' ≤ N ∧ Value.int .i64 ((k : Int) + 1) = .int .i64 (k' : Int) ∧ w.ownsRow w4.heap.size 9 1 v6 k' (vS (S.take k')) ∧ w.ownsRow w4.heap.size 3 1 (.slice am M cm) (keptL S Z k').length (vN (keptL S Z k')) ∧ Below w4.heap.size w4 w ∧ (∀ j (h : j < S.length), j < k' → (S[j]).act (cod Z j) ≠ 1)) ∧ N - (intOf (.int .i64 ((k : Int) + 1))).toNat < N - (intOf (.int .i64 (k : Int))).toNat) := Lib.hid (by
                intro w hw h1
                subst hw
                refine ⟨⟨k + 1, by omega, by go_num, lb.own_cast HO7.out HSN.out.symm rfl, lb.own_cast HM7.out hv2.out.1 hv2.out.2, HB7.out, fun j h hj => ?_⟩, by simp [intOf]; omega⟩
                rcases (show j < k ∨ j = k by omega) with h' | rfl
                · exact HNE.out j h h'
                · rw [HACT.out h]; exact h1)
              by_cases h1 : a = 1
              · have hq0 : q ≠ 0 := by omega
                have b0 : ((q : Int) == 0) = false := by simp; omega
                have b1 : (a == 1) = true := by simp [h1]
                have F := Lib.hid (FB.out wc rfl h1)
                clear FB FC h1
                go_wp2_with (first | (go_at_call 14; refine (HCODE.out _ k (by omega) HB7.out).mono ?_; rintro e w8 ⟨rfl, hw8⟩; obtain rfl := hw8; rw [HQ.out]) | fail)
                go_meet
                exact F.out
              · have b1 : (a == 1) = false := by simp [h1]
                have F := Lib.hid (FC.out wc rfl h1)
                clear FB FC h1
                by_cases hq0 : q = 0
                · have ha2 : a = 2 := by omega
                  have b0 : ((q : Int) == 0) = true := by simp [hq0]
                  have b2 : (a != 2) = false := by simp [ha2]
                  clear hq0 ha2
                  go_wp2_with (first | (go_at_call 14; refine (HCODE.out _ k (by omega) HB7.out).mono ?_; rintro e w8 ⟨rfl, hw8⟩; obtain rfl := hw8; rw [HQ.out]) | fail)
                  exact F.out
                · have b0 : ((q : Int) == 0) = false := by simp; omega
                  clear hq0
                  go_wp2_with (first | (go_at_call 14; refine (HCODE.out _ k (by omega) HB7.out).mono ?_; rintro e w8 ⟨rfl, hw8⟩; obtain rfl := hw8; rw [HQ.out]) | fail)
                  exact F.out
        · go_wp2_with fail
          go_meet
          exact ⟨k, by omega, Nat.le_refl _, HOD.out, lb.own_cast HOM.out rfl HML.out.symm, HBR.out, fun j h hj => HNE.out j h (by omega), fun j h hj hn => absurd hn (Nat.lt_irrefl _)⟩
    case rest =>
      obtain ⟨L, hL1, hLN, hod, hom, hbc, hne, hst⟩ := hcut
      obtain ⟨al, cl2, rfl⟩ := lb.own_shape hod
      obtain ⟨am, cm, rfl⟩ := lb.own_shape hom
      have HNE := Lib.hid hne
      have HST := Lib.hid hst
      have HOD := Lib.hid hod
      have HOM := Lib.hid hom
      have HBC := Lib.hid hbc
      have hkl := keptL_len S Z L
      obtain ⟨M, hM⟩ : ∃ M, (keptL S Z L).length = M := ⟨_, rfl⟩
      have HML := Lib.hid hM
      rw [hM] at HOM hkl
      simp only [hM]
      clear hne hst hod hom hbc hM
      go_upto_block 2 with fail
      go_cut [11, 13] (fun dv mv wx => wx.ownsRow wc.heap.size 9 1 dv L (vS (S.take L)) ∧ wx.ownsRow wc.heap.size 3 1 mv M (vN (keptL S Z L)) ∧ Below wc.heap.size wc wx)
      case first =>
        go_wp2_with fail
        go_loopw [11, 13, 16, 17] (fun dv mv rv iv wr => ∃ k : Nat, k < L ∧ iv = .int .i64 (k : Int) ∧ rv = .int .i64 (k : Int) ∧ wr.ownsRow wc.heap.size 9 1 dv k (vS (S.take k)) ∧ wr.ownsRow wc.heap.size 3 1 mv (keptL S Z k).length (vN (keptL S Z k)) ∧ Below wc.heap.size wc wr) (fun _ _ _ iv _ => 20 - (intOf iv).toNat)
        case atStart => exact ⟨0, by omega, rfl, rfl, by simpa [vS] using World.ownsRow_nil _ _ _ _, by simpa [keptL, vN] using World.ownsRow_nil _ _ _ _, Below.refl _ _⟩
        case round =>
          obtain ⟨k, hk, rfl, rfl, hod, hom, hbr⟩ := hrel
          have HBR := Lib.hid hbr
          obtain ⟨ak, ck, rfl⟩ := lb.own_shape hod
          obtain ⟨aq, cq, rfl⟩ := lb.own_shape hom
          have HOD2 := Lib.hid hod
          have HOM2 := Lib.hid hom
          have hkl2 := keptL_len S Z k
          obtain ⟨M2, hM2⟩ : ∃ M2, (keptL S Z k).length = M2 := ⟨_, rfl⟩
          have HML2 := Lib.hid hM2
          rw [hM2] at HOM2 hkl2
          simp only [hM2]
          have HBW := Lib.hid (lb.below_then HBC.out hbr)
          clear hbr hod hom hM2
          have hkS : k < S.length := by rw [HN.out]; omega
          obtain ⟨x, hx⟩ : ∃ x, S[k] = x := ⟨_, rfl⟩
          have HX := Lib.hid hx
          have hsn : vS (S.take (k + 1)) = vS (S.take k) ++ [.string x.src] := by
            rw [List.take_succ_eq_append_getElem hkS, hx]
            simp [vS]
          have HSN := Lib.hid hsn
          have hsr := srcAt_in hkS
          rw [hx] at hsr
          have HSC := Lib.hid (fun w (ht : TableAt w w2.heap.size tb S) => source_calls w w2.heap.size tb S (k : Int) ht)
          rw [hsr] at HSC
          obtain ⟨q, hq⟩ : ∃ q, cod Z k = q := ⟨_, rfl⟩
          have HQ := Lib.hid hq
          obtain ⟨a, ha⟩ : ∃ a, x.act q = a := ⟨_, rfl⟩
          have hidx : idx (q : Int) = q := by rw [← hq]; exact idx_cod Z k
          have hact : (S[k]).act (idx (q : Int)) = a := by rw [hx, hidx]; exact ha
          have HACT := Lib.hid hact
          have hact2 : (S[k]).act (cod Z k) = a := by rw [hx, hq]; exact ha
          have hkb : keptB S Z k = (decide (q = 0) && decide (a ≠ 2)) := by
            unfold keptB
            rw [List.getD_eq_getElem?_getD, List.getElem?_eq_getElem hkS, Option.getD_some, hact2, hq]
          have hks : keptL S Z (k + 1) = keptL S Z k ++ (if (decide (q = 0) && decide (a ≠ 2)) = true then [k] else []) := by
            rw [keptL, hkb]
          have HKS := Lib.hid hks
          have hend : (a ≠ 1 ∧ k + 1 < N → k + 1 < L) ∧ (a = 1 ∨ ¬ k + 1 < N → k + 1 = L) := by
            constructor
            · rintro ⟨g1, g2⟩
              rcases (show k + 1 < L ∨ L = k + 1 by omega) with g | g
              · exact g
              · exact absurd (hact2.symm.trans (HST.out k hkS g (by omega))) g1
            · intro g
              rcases (show k + 1 = L ∨ k + 1 < L by omega) with g' | g'
              · exact g'
              · rcases g with g | g
                · exact absurd (hact2.trans g) (HNE.out k hkS g')
                · omega
          have HEND := Lib.hid hend
          clear hx hsn hsr hq ha hidx hact hact2 hkb hks hend
          rcases (show (a ≠ 1 ∧ k + 1 < N) ∨ (a = 1 ∨ ¬ k + 1 < N) by omega) with ⟨g1, g2⟩ | hg
          · have hL := HEND.out.1 ⟨g1, g2⟩
            have HNX := Lib.hid (fun w (ht : TableAt w w2.heap.size tb S) => next_go w _ tb k N S (q : Int) a ht HN.out hkS HACT.out g1 g2)
            rcases (show (q = 0 ∧ a ≠ 2) ∨ (q ≠ 0 ∨ a = 2) by omega) with ⟨f1, f2⟩ | hf
            · have hk2 : keptL S Z (k + 1) = keptL S Z k ++ [k] := by rw [HKS.out]; simp [f1, f2]
              have hv2 : Hid (vN (keptL S Z k) ++ [.int .i64 (k : Int)] = vN (keptL S Z (k + 1)) ∧ M2 + 1 = (keptL S Z (k + 1)).length) := Lib.hid (by rw [hk2]; exact ⟨by simp [vN], by simp; exact HML2.out.symm⟩)
              have b0 : ((q : Int) == 0) = true := by simp [f1]
              have b2 : (a != 2) = true := by simp [f2]
              clear hk2 f1 f2
              go_wp2_with (first | (go_at_call 15; refine (HSC.out _ (HT.out.later HBW.out)).mono ?_; rintro e w5 ⟨rfl, hw5⟩; subst hw5) | (at_builtin; refine lb.app1 rfl (.tmp 86) (.tmp 90) 34 rfl 9 i1 (.string ⟨#[]⟩) 1 16 Try.underlying34 hj hy0 hy1 hy2 rfl (by decide) wc _ (.slice ak k ck) k (vS (S.take k)) [.string x.src] rfl HOD2.out HBR.out rfl rfl (by intro u hu; simp at hu; subst hu; rfl) (by omega) (by omega) ?_; intro v6 w6 ho6 hb6 hk6; have HO6 := Lib.hid ho6; have HB6 := Lib.hid hb6; have HM6 := Lib.hid (hk6.own HOM2.out (by decide)); have HW6 := Lib.hid (lb.below_then HBC.out hb6); clear ho6 hb6 hk6) | (go_at_call 14; refine (HCODE.out _ k (by omega) HW10.out).mono ?_; rintro e w8 ⟨rfl, hw8⟩; subst hw8; rw [HQ.out]) | (go_at_call 14; refine (HCODE.out _ k (by omega) HW6.out).mono ?_; rintro e w8 ⟨rfl, hw8⟩; subst hw8; rw [HQ.out]) | (go_at_call 16; refine (HNX.out _ (HT.out.later HW6.out)).mono ?_; rintro e w10 ⟨rfl, hb10⟩; have HB10 := Lib.hid (lb.below_then HB6.out hb10); have HW10 := Lib.hid (lb.below_then HW6.out hb10); have HO10 := Lib.hid (lb.own_later HO6.out hb10); have HM10 := Lib.hid (lb.own_later HM6.out hb10); clear hb10) | (at_builtin; refine lb.app1 rfl (.tmp 110) (.tmp 112) 23 rfl 3 i0 (.int .i64 0) 1 8 Try.underlying23 hi hz0 hz1 hz2 rfl (by decide) wc _ (.slice aq M2 cq) M2 (vN (keptL S Z k)) [.int .i64 (k : Int)] rfl HM10.out HB10.out rfl rfl (by intro u hu; simp at hu; subst hu; rfl) (by omega) (by omega) ?_; intro v11 w11 ho11 hb11 hk11; have HM11 := Lib.hid ho11; have HB11 := Lib.hid hb11; have HO11 := Lib.hid (hk11.own HO10.out (by decide)); clear ho11 hb11 hk11) | fail)
              refine ⟨⟨k + 1, by omega, by go_num, by go_num, lb.own_cast HO11.out HSN.out.symm rfl, lb.own_cast HM11.out hv2.out.1 hv2.out.2, HB11.out⟩, by simp [intOf]; omega⟩
            · have hk2 : keptL S Z (k + 1) = keptL S Z k := by
                rw [HKS.out]
                have : (decide (q = 0) && decide (a ≠ 2)) = false := by rcases hf with h | h <;> simp [h]
                rw [this]
                simp
              have hv2 : Hid (vN (keptL S Z k) = vN (keptL S Z (k + 1)) ∧ M2 = (keptL S Z (k + 1)).length) := Lib.hid (by rw [hk2]; exact ⟨rfl, HML2.out.symm⟩)
              clear hk2
              by_cases hq0 : q = 0
              · have b0 : ((q : Int) == 0) = true := by simp [hq0]
                have b2 : (a != 2) = false := by simp; omega
                clear hq0 hf
                go_wp2_with (first | (go_at_call 15; refine (HSC.out _ (HT.out.later HBW.out)).mono ?_; rintro e w5 ⟨rfl, hw5⟩; subst hw5) | (at_builtin; refine lb.app1 rfl (.tmp 86) (.tmp 90) 34 rfl 9 i1 (.string ⟨#[]⟩) 1 16 Try.underlying34 hj hy0 hy1 hy2 rfl (by decide) wc _ (.slice ak k ck) k (vS (S.take k)) [.string x.src] rfl HOD2.out HBR.out rfl rfl (by intro u hu; simp at hu; subst hu; rfl) (by omega) (by omega) ?_; intro v6 w6 ho6 hb6 hk6; have HO6 := Lib.hid ho6; have HB6 := Lib.hid hb6; have HM6 := Lib.hid (hk6.own HOM2.out (by decide)); have HW6 := Lib.hid (lb.below_then HBC.out hb6); clear ho6 hb6 hk6) | (go_at_call 14; refine (HCODE.out _ k (by omega) HW10.out).mono ?_; rintro e w8 ⟨rfl, hw8⟩; subst hw8; rw [HQ.out]) | (go_at_call 14; refine (HCODE.out _ k (by omega) HW6.out).mono ?_; rintro e w8 ⟨rfl, hw8⟩; subst hw8; rw [HQ.out]) | (go_at_call 16; refine (HNX.out _ (HT.out.later HW6.out)).mono ?_; rintro e w10 ⟨rfl, hb10⟩; have HB10 := Lib.hid (lb.below_then HB6.out hb10); have HW10 := Lib.hid (lb.below_then HW6.out hb10); have HO10 := Lib.hid (lb.own_later HO6.out hb10); have HM10 := Lib.hid (lb.own_later HM6.out hb10); clear hb10) | (at_builtin; refine lb.app1 rfl (.tmp 110) (.tmp 112) 23 rfl 3 i0 (.int .i64 0) 1 8 Try.underlying23 hi hz0 hz1 hz2 rfl (by decide) wc _ (.slice aq M2 cq) M2 (vN (keptL S Z k)) [.int .i64 (k : Int)] rfl HM10.out HB10.out rfl rfl (by intro u hu; simp at hu; subst hu; rfl) (by omega) (by omega) ?_; intro v11 w11 ho11 hb11 hk11; have HM11 := Lib.hid ho11; have HB11 := Lib.hid hb11; have HO11 := Lib.hid (hk11.own HO10.out (by decide)); clear ho11 hb11 hk11) | fail)
                refine ⟨⟨k + 1, by omega, by go_num, by go_num, lb.own_cast HO10.out HSN.out.symm rfl, lb.own_cast HM10.out hv2.out.1 hv2.out.2, HB10.out⟩, by simp [intOf]; omega⟩
              · have b0 : ((q : Int) == 0) = false := by simp; omega
                clear hq0 hf
                go_wp2_with (first | (go_at_call 15; refine (HSC.out _ (HT.out.later HBW.out)).mono ?_; rintro e w5 ⟨rfl, hw5⟩; subst hw5) | (at_builtin; refine lb.app1 rfl (.tmp 86) (.tmp 90) 34 rfl 9 i1 (.string ⟨#[]⟩) 1 16 Try.underlying34 hj hy0 hy1 hy2 rfl (by decide) wc _ (.slice ak k ck) k (vS (S.take k)) [.string x.src] rfl HOD2.out HBR.out rfl rfl (by intro u hu; simp at hu; subst hu; rfl) (by omega) (by omega) ?_; intro v6 w6 ho6 hb6 hk6; have HO6 := Lib.hid ho6; have HB6 := Lib.hid hb6; have HM6 := Lib.hid (hk6.own HOM2.out (by decide)); have HW6 := Lib.hid (lb.below_then HBC.out hb6); clear ho6 hb6 hk6) | (go_at_call 14; refine (HCODE.out _ k (by omega) HW10.out).mono ?_; rintro e w8 ⟨rfl, hw8⟩; subst hw8; rw [HQ.out]) | (go_at_call 14; refine (HCODE.out _ k (by omega) HW6.out).mono ?_; rintro e w8 ⟨rfl, hw8⟩; subst hw8; rw [HQ.out]) | (go_at_call 16; refine (HNX.out _ (HT.out.later HW6.out)).mono ?_; rintro e w10 ⟨rfl, hb10⟩; have HB10 := Lib.hid (lb.below_then HB6.out hb10); have HW10 := Lib.hid (lb.below_then HW6.out hb10); have HO10 := Lib.hid (lb.own_later HO6.out hb10); have HM10 := Lib.hid (lb.own_later HM6.out hb10); clear hb10) | (at_builtin; refine lb.app1 rfl (.tmp 110) (.tmp 112) 23 rfl 3 i0 (.int .i64 0) 1 8 Try.underlying23 hi hz0 hz1 hz2 rfl (by decide) wc _ (.slice aq M2 cq) M2 (vN (keptL S Z k)) [.int .i64 (k : Int)] rfl HM10.out HB10.out rfl rfl (by intro u hu; simp at hu; subst hu; rfl) (by omega) (by omega) ?_; intro v11 w11 ho11 hb11 hk11; have HM11 := Lib.hid ho11; have HB11 := Lib.hid hb11; have HO11 := Lib.hid (hk11.own HO10.out (by decide)); clear ho11 hb11 hk11) | fail)
                refine ⟨⟨k + 1, by omega, by go_num, by go_num, lb.own_cast HO10.out HSN.out.symm rfl, lb.own_cast HM10.out hv2.out.1 hv2.out.2, HB10.out⟩, by simp [intOf]; omega⟩
          · have hL := HEND.out.2 hg
            have HNX := Lib.hid (fun w (ht : TableAt w w2.heap.size tb S) => next_stop w _ tb k N S (q : Int) a ht HN.out hkS HACT.out hg)
            clear hg
            rcases (show (q = 0 ∧ a ≠ 2) ∨ (q ≠ 0 ∨ a = 2) by omega) with ⟨f1, f2⟩ | hf
            · have hk2 : keptL S Z (k + 1) = keptL S Z k ++ [k] := by rw [HKS.out]; simp [f1, f2]
              have hv2 : Hid (vN (keptL S Z k) ++ [.int .i64 (k : Int)] = vN (keptL S Z (k + 1)) ∧ M2 + 1 = (keptL S Z (k + 1)).length) := Lib.hid (by rw [hk2]; exact ⟨by simp [vN], by simp; exact HML2.out.symm⟩)
              have b0 : ((q : Int) == 0) = true := by simp [f1]
              have b2 : (a != 2) = true := by simp [f2]
              clear hk2 f1 f2
              go_wp2_with (first | (go_at_call 15; refine (HSC.out _ (HT.out.later HBW.out)).mono ?_; rintro e w5 ⟨rfl, hw5⟩; subst hw5) | (at_builtin; refine lb.app1 rfl (.tmp 86) (.tmp 90) 34 rfl 9 i1 (.string ⟨#[]⟩) 1 16 Try.underlying34 hj hy0 hy1 hy2 rfl (by decide) wc _ (.slice ak k ck) k (vS (S.take k)) [.string x.src] rfl HOD2.out HBR.out rfl rfl (by intro u hu; simp at hu; subst hu; rfl) (by omega) (by omega) ?_; intro v6 w6 ho6 hb6 hk6; have HO6 := Lib.hid ho6; have HB6 := Lib.hid hb6; have HM6 := Lib.hid (hk6.own HOM2.out (by decide)); have HW6 := Lib.hid (lb.below_then HBC.out hb6); clear ho6 hb6 hk6) | (go_at_call 14; refine (HCODE.out _ k (by omega) HW10.out).mono ?_; rintro e w8 ⟨rfl, hw8⟩; subst hw8; rw [HQ.out]) | (go_at_call 14; refine (HCODE.out _ k (by omega) HW6.out).mono ?_; rintro e w8 ⟨rfl, hw8⟩; subst hw8; rw [HQ.out]) | (go_at_call 16; refine (HNX.out _ (HT.out.later HW6.out)).mono ?_; rintro e w10 ⟨rfl, hb10⟩; have HB10 := Lib.hid (lb.below_then HB6.out hb10); have HW10 := Lib.hid (lb.below_then HW6.out hb10); have HO10 := Lib.hid (lb.own_later HO6.out hb10); have HM10 := Lib.hid (lb.own_later HM6.out hb10); clear hb10) | (at_builtin; refine lb.app1 rfl (.tmp 110) (.tmp 112) 23 rfl 3 i0 (.int .i64 0) 1 8 Try.underlying23 hi hz0 hz1 hz2 rfl (by decide) wc _ (.slice aq M2 cq) M2 (vN (keptL S Z k)) [.int .i64 (k : Int)] rfl HM10.out HB10.out rfl rfl (by intro u hu; simp at hu; subst hu; rfl) (by omega) (by omega) ?_; intro v11 w11 ho11 hb11 hk11; have HM11 := Lib.hid ho11; have HB11 := Lib.hid hb11; have HO11 := Lib.hid (hk11.own HO10.out (by decide)); clear ho11 hb11 hk11) | fail)
              go_meet
              have hLe := hL
              have hm2 : M = (keptL S Z (k + 1)).length := by rw [hLe]; exact HML.out.symm
              rw [← hLe, hm2]
              exact ⟨lb.own_cast HO11.out HSN.out.symm rfl, lb.own_cast HM11.out hv2.out.1 hv2.out.2, HB11.out⟩
            · have hk2 : keptL S Z (k + 1) = keptL S Z k := by
                rw [HKS.out]
                have : (decide (q = 0) && decide (a ≠ 2)) = false := by rcases hf with h | h <;> simp [h]
                rw [this]
                simp
              have hv2 : Hid (vN (keptL S Z k) = vN (keptL S Z (k + 1)) ∧ M2 = (keptL S Z (k + 1)).length) := Lib.hid (by rw [hk2]; exact ⟨rfl, HML2.out.symm⟩)
              clear hk2
              by_cases hq0 : q = 0
              · have b0 : ((q : Int) == 0) = true := by simp [hq0]
                have b2 : (a != 2) = false := by simp; omega
                clear hq0 hf
                go_wp2_with (first | (go_at_call 15; refine (HSC.out _ (HT.out.later HBW.out)).mono ?_; rintro e w5 ⟨rfl, hw5⟩; subst hw5) | (at_builtin; refine lb.app1 rfl (.tmp 86) (.tmp 90) 34 rfl 9 i1 (.string ⟨#[]⟩) 1 16 Try.underlying34 hj hy0 hy1 hy2 rfl (by decide) wc _ (.slice ak k ck) k (vS (S.take k)) [.string x.src] rfl HOD2.out HBR.out rfl rfl (by intro u hu; simp at hu; subst hu; rfl) (by omega) (by omega) ?_; intro v6 w6 ho6 hb6 hk6; have HO6 := Lib.hid ho6; have HB6 := Lib.hid hb6; have HM6 := Lib.hid (hk6.own HOM2.out (by decide)); have HW6 := Lib.hid (lb.below_then HBC.out hb6); clear ho6 hb6 hk6) | (go_at_call 14; refine (HCODE.out _ k (by omega) HW10.out).mono ?_; rintro e w8 ⟨rfl, hw8⟩; subst hw8; rw [HQ.out]) | (go_at_call 14; refine (HCODE.out _ k (by omega) HW6.out).mono ?_; rintro e w8 ⟨rfl, hw8⟩; subst hw8; rw [HQ.out]) | (go_at_call 16; refine (HNX.out _ (HT.out.later HW6.out)).mono ?_; rintro e w10 ⟨rfl, hb10⟩; have HB10 := Lib.hid (lb.below_then HB6.out hb10); have HW10 := Lib.hid (lb.below_then HW6.out hb10); have HO10 := Lib.hid (lb.own_later HO6.out hb10); have HM10 := Lib.hid (lb.own_later HM6.out hb10); clear hb10) | (at_builtin; refine lb.app1 rfl (.tmp 110) (.tmp 112) 23 rfl 3 i0 (.int .i64 0) 1 8 Try.underlying23 hi hz0 hz1 hz2 rfl (by decide) wc _ (.slice aq M2 cq) M2 (vN (keptL S Z k)) [.int .i64 (k : Int)] rfl HM10.out HB10.out rfl rfl (by intro u hu; simp at hu; subst hu; rfl) (by omega) (by omega) ?_; intro v11 w11 ho11 hb11 hk11; have HM11 := Lib.hid ho11; have HB11 := Lib.hid hb11; have HO11 := Lib.hid (hk11.own HO10.out (by decide)); clear ho11 hb11 hk11) | fail)
                go_meet
                have hLe := hL
                have hm2 : M = (keptL S Z (k + 1)).length := by rw [hLe]; exact HML.out.symm
                rw [← hLe, hm2]
                exact ⟨lb.own_cast HO10.out HSN.out.symm rfl, lb.own_cast HM10.out hv2.out.1 hv2.out.2, HB10.out⟩
              · have b0 : ((q : Int) == 0) = false := by simp; omega
                clear hq0 hf
                go_wp2_with (first | (go_at_call 15; refine (HSC.out _ (HT.out.later HBW.out)).mono ?_; rintro e w5 ⟨rfl, hw5⟩; subst hw5) | (at_builtin; refine lb.app1 rfl (.tmp 86) (.tmp 90) 34 rfl 9 i1 (.string ⟨#[]⟩) 1 16 Try.underlying34 hj hy0 hy1 hy2 rfl (by decide) wc _ (.slice ak k ck) k (vS (S.take k)) [.string x.src] rfl HOD2.out HBR.out rfl rfl (by intro u hu; simp at hu; subst hu; rfl) (by omega) (by omega) ?_; intro v6 w6 ho6 hb6 hk6; have HO6 := Lib.hid ho6; have HB6 := Lib.hid hb6; have HM6 := Lib.hid (hk6.own HOM2.out (by decide)); have HW6 := Lib.hid (lb.below_then HBC.out hb6); clear ho6 hb6 hk6) | (go_at_call 14; refine (HCODE.out _ k (by omega) HW10.out).mono ?_; rintro e w8 ⟨rfl, hw8⟩; subst hw8; rw [HQ.out]) | (go_at_call 14; refine (HCODE.out _ k (by omega) HW6.out).mono ?_; rintro e w8 ⟨rfl, hw8⟩; subst hw8; rw [HQ.out]) | (go_at_call 16; refine (HNX.out _ (HT.out.later HW6.out)).mono ?_; rintro e w10 ⟨rfl, hb10⟩; have HB10 := Lib.hid (lb.below_then HB6.out hb10); have HW10 := Lib.hid (lb.below_then HW6.out hb10); have HO10 := Lib.hid (lb.own_later HO6.out hb10); have HM10 := Lib.hid (lb.own_later HM6.out hb10); clear hb10) | (at_builtin; refine lb.app1 rfl (.tmp 110) (.tmp 112) 23 rfl 3 i0 (.int .i64 0) 1 8 Try.underlying23 hi hz0 hz1 hz2 rfl (by decide) wc _ (.slice aq M2 cq) M2 (vN (keptL S Z k)) [.int .i64 (k : Int)] rfl HM10.out HB10.out rfl rfl (by intro u hu; simp at hu; subst hu; rfl) (by omega) (by omega) ?_; intro v11 w11 ho11 hb11 hk11; have HM11 := Lib.hid ho11; have HB11 := Lib.hid hb11; have HO11 := Lib.hid (hk11.own HO10.out (by decide)); clear ho11 hb11 hk11) | fail)
                go_meet
                have hLe := hL
                have hm2 : M = (keptL S Z (k + 1)).length := by rw [hLe]; exact HML.out.symm
                rw [← hLe, hm2]
                exact ⟨lb.own_cast HO10.out HSN.out.symm rfl, lb.own_cast HM10.out hv2.out.1 hv2.out.2, HB10.out⟩
      case rest =>
        obtain ⟨hod2, hom2, hbx⟩ := hcut
        have hod1 := lb.own_later HOD.out hbx
        have hom1 := lb.own_later HOM.out hbx
        obtain ⟨gd, cd, hgd⟩ := lb.row_addr hod1 (by omega)
        cases hgd
        obtain ⟨ge, ce, rfl⟩ := lb.row_addr hod2 (by omega)
        obtain ⟨ak, ck, rfl⟩ := lb.own_shape hom2
        have HD1 := Lib.hid hod1
        have HD2 := Lib.hid hod2
        have HM1 := Lib.hid hom1
        have HM2 := Lib.hid hom2
        have HBX := Lib.hid (lb.below_then (lb.below_then HB3.out HBC.out) hbx)
        clear hod1 hod2 hom1 hom2 hbx
        obtain ⟨wy, hwy⟩ : ∃ wy, wy = wc := ⟨_, rfl⟩
        subst hwy
        go_upto_block 4 with fail
        go_cut [21] (fun iv wx => Below wy.heap.size wy wx)
        case first =>
          go_wp2_with fail
          go_loopw [21] (fun iv wr => ∃ k : Nat, k ≤ L ∧ iv = .int .i64 (k : Int) ∧ Below wy.heap.size wy wr) (fun iv _ => L - (intOf iv).toNat)
          case atStart => exact ⟨0, Nat.zero_le _, rfl, Below.refl _ _⟩
          case round =>
            obtain ⟨k, hk, rfl, hb⟩ := hrel
            rcases (show k < L ∨ k = L by omega) with hlt | rfl
            · have hkS : k < S.length := by rw [HN.out]; omega
              have hcell : (vS (S.take L))[k]? = some (.string (S[k]).src) := by simp [vS, hlt, hkS]
              have e1 := (lb.row_at (lb.own_later HD1.out hb) hlt).trans hcell
              have e2 := (lb.row_at (lb.own_later HD2.out hb) hlt).trans hcell
              obtain ⟨s, hs⟩ : ∃ s, (S[k]).src = s := ⟨_, rfl⟩
              rw [hs] at e1 e2
              have HB := Lib.hid hb
              clear hcell hs hb
              go_wp2_with fail
              go_quiet (fail)
              go_wp2
              exact ⟨⟨k + 1, by omega, by go_num, lb.drewN_of HB.out _⟩, by simp [intOf]; omega⟩
            · go_wp2_with fail
              go_meet
              exact hb
        case rest =>
          have HB4 := Lib.hid hcut
          go_wp2_with fail
          obtain ⟨wz, hwz⟩ : ∃ wz, wz = wc := ⟨_, rfl⟩
          subst hwz
          go_loopw [22] (fun iv wr => ∃ k : Nat, k ≤ M ∧ iv = .int .i64 (k : Int) ∧ Below wz.heap.size wz wr) (fun iv _ => M - (intOf iv).toNat)
          case atStart => exact ⟨0, Nat.zero_le _, rfl, Below.refl _ _⟩
          case round =>
            obtain ⟨k, hk, rfl, hb⟩ := hrel
            have HB := Lib.hid (lb.below_then HB4.out hb)
            have HBZ := Lib.hid hb
            clear hb
            rcases (show k < M ∨ k = M by omega) with hlt | rfl
            · obtain ⟨gm, cm2, hgm⟩ := lb.row_addr HM1.out (by omega)
              cases hgm
              obtain ⟨gk, ck2, hgk⟩ := lb.row_addr HM2.out (by omega)
              cases hgk
              have hkl3 : k < (keptL S Z L).length := by rw [HML.out]; exact hlt
              have hcell : (vN (keptL S Z L))[k]? = some (.int .i64 (((keptL S Z L)[k] : Nat) : Int)) := by simp [vN, hkl3]
              have e1 := (lb.row_at (lb.own_later HM1.out HB.out) hlt).trans hcell
              have e2 := (lb.row_at (lb.own_later HM2.out HB.out) hlt).trans hcell
              obtain ⟨s, hs⟩ : ∃ s, (((keptL S Z L)[k] : Nat) : Int) = s := ⟨_, rfl⟩
              rw [hs] at e1 e2
              clear hcell hs
              go_wp2_with fail
              go_quiet (fail)
              go_wp2
              exact ⟨⟨k + 1, by omega, by go_num, lb.drewN_of HBZ.out _⟩, by simp [intOf]; omega⟩
            · go_wp2
              go_ret
              exact ⟨rfl, lb.below_then HBX.out HB.out⟩
end Go.Proofs.Ytgfkgoiaoglhnaa.ac
