/- The walk of the law NameSearch. -/
import Derived.Test.YtkjjidmchepjcaaDoorProg
import Derived.WalkKit
import Derived.ProofKit
import Derived.Lib.Hide
import Derived.WalkLawsBesides
import Derived.WalkSpells
import Derived.Deep.RegionWith
import Derived.Deep.QuietTactic
import Derived.BigQuiet
import Derived.Deep.DeepCutAuto
import Derived.Deep.CutBlock
import Derived.OwnWalk
import Derived.Test.YtkjjidmchepjcaaDoorNI
import Derived.Test.YtkjjidmchepjcaaDoorCU
import Derived.Test.YtkjjidmchepjcaaDoorBN
namespace Go.Proofs.YtkjjidmchepjcaaDoor.nm
open Go Go.RowKit Go.ChangeShapes Go.WideShapes
set_option linter.unusedVariables false
set_option linter.unusedSimpArgs false
theorem cut_bsl (x : List UInt8) (n : Nat) : ac.cutS (bsl x) n = bsl (x.take n) := by
  unfold ac.cutS
  rw [bsl_size]
  by_cases h : n < x.length
  · rw [if_pos h, extract_seg]
    rfl
  · rw [if_neg h, List.take_of_length_le (by omega)]
set_option maxRecDepth 100000 in
set_option maxHeartbeats 16000000 in
theorem namesearch_walk {H : Type} {enc : TypeId × Value → H} (W : World) (base : Nat) (m : Int) (hm : W.cell? ⟨0, 0, none⟩ = some (.int .i64 m))
    (v0 : Value) (d0 : DataW H) (p0 : List MemPlace) (k0 : Value.okWide Tryd.prog W .any base 9 v0) (h0 : DataW.Trod enc Tryd.prog W 0 (fun _ => true) true 9 v0 d0 p0)
    (v1 : Value) (d1 : DataW H) (p1 : List MemPlace) (k1 : Value.okWide Tryd.prog W .any base 33 v1) (h1 : DataW.Trod enc Tryd.prog W 0 (fun _ => true) true 33 v1 d1 p1)
    (v2 : Value) (d2 : DataW H) (p2 : List MemPlace) (k2 : Value.okWide Tryd.prog W .any base 3 v2) (h2 : DataW.Trod enc Tryd.prog W 0 (fun _ => true) true 3 v2 d2 p2) :
    Calls Tryd.prog 11 #[v0, v1, v2] W fun e w' => e = .returned (.bool true) ∧ Below W.heap.size W w' := by
  obtain ⟨i1, hj1, hy0, hy1, hy2⟩ := info_parts info_str
  obtain ⟨s, rfl, _, _, hsb⟩ := Go.ChangeMaps.open_string Tryd.underlying9 k0 h0
  obtain ⟨ad, n0, cp, X, rfl, hX, hcp, hn0, hXs, hin⟩ := texts_open k1 h1
  obtain ⟨d, rfl, _, _, _⟩ := open_int Tryd.underlying3 k2 h2
  unfold maxLen at hsb
  have HSB := Lib.hid hsb
  have hcs := ac.cutS_size s 300
  obtain ⟨t, ht⟩ : ∃ t, ac.cutS s 300 = t := ⟨_, rfl⟩
  rw [ht] at hcs
  have HT := Lib.hid ht
  have HM := Lib.hid hm
  have HX := Lib.hid hX
  have HXS := Lib.hid hXs
  have HIN := Lib.hid hin
  obtain ⟨Y, hY⟩ : ∃ Y, (X.take 9).map (fun x => x.take 300) = Y := ⟨_, rfl⟩
  obtain ⟨q, hq⟩ : ∃ q, Y.length = q := ⟨_, rfl⟩
  have hq9 : q = min 9 n0 := by rw [← hq, ← hY, List.length_map, List.length_take, hX]
  have hqc : q ≤ 9 ∧ q ≤ n0 ∧ (q = 9 ∨ q = n0) := by omega
  have hYs : ∀ x ∈ Y, x.length ≤ 1000 := by
    intro x hx
    rw [← hY] at hx
    obtain ⟨u, _, rfl⟩ := List.mem_map.1 hx
    simp
    omega
  have HY := Lib.hid hY
  have HQ := Lib.hid hq
  have HYS := Lib.hid hYs
  clear k0 k1 k2 h0 h1 h2 hsb ht hm hX hXs hin hY hq hq9 hYs
  obtain ⟨hq9, hqn, hqe⟩ := hqc
  go_enter Tryd.func11, Tryd.ntmps11
  go_upto_block 0 with (first
    | (go_at_call 31; refine (bgnames.begun _).mono ?_; rintro e w1 ⟨rfl, hb1⟩; have HB1 := Lib.hid hb1; clear hb1)
    | (go_at_call 32; refine (ac.cut_calls s 300 _ (by omega) HSB.out).mono ?_; rintro e w2 ⟨rfl, rfl⟩; rw [HT.out])
    | fail)
  go_cut [8] (fun lv wx => wx.ownsRow W.heap.size 9 1 lv q (Y.map sV) ∧ Below W.heap.size W wx)
  case first =>
    go_wp2_with fail
    go_loopw [8, 9] (fun lv iv wr => ∃ k : Nat, k ≤ q ∧ iv = .int .i64 k ∧ wr.ownsRow W.heap.size 9 1 lv k ((Y.take k).map sV) ∧ Below W.heap.size W wr) (fun _ iv _ => q - (intOf iv).toNat)
    case atStart => exact ⟨0, Nat.zero_le _, rfl, lb.own_nil _ _ _ _, HB1.out⟩
    case round =>
      obtain ⟨k, hk, rfl, ho, hb⟩ := hrel
      obtain ⟨al, cl, rfl⟩ := lb.own_shape ho
      have HO := Lib.hid ho
      have HB := Lib.hid hb
      clear ho hb
      by_cases hlt : k < q
      · have hkX : k < X.length := by rw [HX.out]; omega
        have hkY : k < Y.length := by rw [HQ.out]; exact hlt
        obtain ⟨b, o, rfl, hcell⟩ := HIN.out.resolve_left (by intro h0; rw [h0] at hkX; cases hkX)
        have e1 := (HB.out.cell (p := ⟨b, o + k, none⟩) (World.block_lt_of_cell? W _ (hcell k hkX))).trans (hcell k hkX)
        have hxs := HXS.out _ (List.getElem_mem hkX)
        have hst : Y.take (k + 1) = Y.take k ++ [(X[k]).take 300] := by
          rw [List.take_succ_eq_append_getElem hkY]
          congr 2
          have hy := HY.out
          subst hy
          simp
        obtain ⟨x, hx⟩ : ∃ x, X[k] = x := ⟨_, rfl⟩
        rw [hx] at e1 hxs hst
        have hct := fun w => ac.cut_calls (bsl x) 300 w (by omega) (by rw [bsl_size]; exact hxs)
        rw [cut_bsl] at hct
        obtain ⟨S, hS⟩ : ∃ S, bsl x = S := ⟨_, rfl⟩
        obtain ⟨T, hT⟩ : ∃ T, bsl (x.take 300) = T := ⟨_, rfl⟩
        rw [hS] at e1 hct
        rw [hT] at hct
        have HST := Lib.hid hst
        have HTT := Lib.hid hT
        have HCT := Lib.hid hct
        have hk9 : k < n0 ∧ k < 9 := by omega
        clear hcell hst hx hS hT hct hxs
        go_wp2_with (first
          | (go_at_call 32; refine (HCT.out _).mono ?_; rintro e w2 ⟨rfl, rfl⟩)
          | (at_builtin; refine lb.app1 rfl (.tmp 25) (.tmp 31) 33 rfl 9 i1 (.string ⟨#[]⟩) 1 16 Tryd.underlying33 hj1 hy0 hy1 hy2 rfl (by decide) W _ _ k _ [.string T] rfl HO.out HB.out rfl rfl (by intro u hu; simp at hu; subst hu; rfl) (by omega) (by omega) ?_; intro v4 w4 ho4 hb4 hk4; have HO4 := Lib.hid ho4; have HB4 := Lib.hid hb4; clear ho4 hb4 hk4)
          | fail)
        refine ⟨⟨k + 1, by omega, by go_num, ?_, HB4.out⟩, by simp [intOf]; omega⟩
        rw [HST.out]
        refine lb.own_cast HO4.out ?_ rfl
        rw [← HTT.out]
        simp
      · obtain rfl : k = q := by omega
        have hfull : Y.take k = Y := by rw [← HQ.out, List.take_length]
        have hO := HO.out
        rw [hfull] at hO
        have HOF := Lib.hid hO
        clear hO hfull
        rcases (show ¬ k < n0 ∨ (k < n0 ∧ ¬ k < 9) by omega) with hx | ⟨hx, hy⟩
        · go_wp2_with fail
          go_meet
          exact ⟨HOF.out, HB.out⟩
        · go_wp2_with fail
          go_meet
          exact ⟨HOF.out, HB.out⟩
  case rest =>
  obtain ⟨ho, hb⟩ := hcut
  obtain ⟨al, cl, rfl⟩ := lb.own_shape ho
  have hoY := ho
  rw [← HQ.out] at hoY
  have hty := txt_own hoY
  have hcap := own_cap hoY
  have HTY := Lib.hid hty
  have HB := Lib.hid hb
  rw [HQ.out] at hcap
  obtain ⟨C, hC⟩ : ∃ C, candL t.data.toList Y d = C := ⟨_, rfl⟩
  have h1 := fun w hm hin => cand_calls t m w al q cl Y d (by omega) hm HQ.out (by omega) hcap HYS.out hin
  have h2 := fun w hin => rcand_calls t w al q cl Y d (by omega) HQ.out (by omega) hcap HYS.out hin
  rw [hC] at h1 h2
  have H1 := Lib.hid h1
  have H2 := Lib.hid h2
  clear h1 h2 hty hoY hb ho hC hcap
  go_wp2_with (first
    | (go_at_call 34; refine (H1.out wc (MaxAt HM.out HB.out) HTY.out).mono ?_; rintro e w3 ⟨v3, rfl, ho3, hb3⟩; obtain ⟨a3, c3, rfl⟩ := lb.own_shape ho3; have HO3 := Lib.hid ho3; have HB3 := Lib.hid hb3; clear ho3 hb3)
    | (go_at_call 35; refine (H2.out w3 (HTY.out.below HB3.out)).mono ?_; rintro e w4 ⟨v4, rfl, ho4, hb4⟩; obtain ⟨a4, c4, rfl⟩ := lb.own_shape ho4; have HO4 := Lib.hid ho4; have HB4 := Lib.hid hb4; clear ho4 hb4)
    | (go_at_call 33; refine (eqt_calls a3 a4 c3 c4 C.length C w4 rfl (lb.own_max HO4.out) ((txt_own HO3.out).below HB4.out) (txt_own HO4.out)).mono ?_; rintro e w5 ⟨rfl, qq, rfl⟩)
    | fail)
  go_ret
  exact ⟨rfl, lb.drewN_of (lb.below_then (lb.below_then HB.out HB3.out) HB4.out) _⟩
end Go.Proofs.YtkjjidmchepjcaaDoor.nm
