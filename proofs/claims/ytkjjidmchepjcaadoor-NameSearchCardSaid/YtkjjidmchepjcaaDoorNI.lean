/- The reference's Candidates; the walk of the law NameSearch. -/
import Derived.Test.YtkjjidmchepjcaaDoorProg
import Derived.WalkKit
import Derived.ProofKit
import Derived.Lib.Hide
import Derived.WalkLawsBesides
import Derived.WalkSpells
import Derived.Deep.RegionWith
import Derived.Deep.QuietTactic
import Derived.BigQuiet
import Derived.Deep.DeepCutAuto
import Derived.Deep.CutBlock
import Derived.OwnWalk
import Derived.Test.YtkjjidmchepjcaaDoorNH
namespace Go.Proofs.YtkjjidmchepjcaaDoor.nm
open Go Go.RowKit Go.ChangeShapes Go.WideShapes
set_option linter.unusedVariables false
set_option linter.unusedSimpArgs false
set_option maxRecDepth 100000 in
set_option maxHeartbeats 16000000 in
theorem rcand_calls (s : ByteArray) (W : World) (ad : Option Addr) (n0 cp : Nat) (X : List (List UInt8)) (d : Int) (hs : s.size ≤ 1000) (hX : X.length = n0) (hn0 : n0 ≤ 1000) (hcp : n0 ≤ cp) (hXs : ∀ x ∈ X, x.length ≤ 1000) (hin : TxtIn W ad X) :
    Calls Tryd.prog 35 #[.string s, .slice ad n0 cp, .int .i64 d] W fun e w' => ∃ v, e = .returned v ∧ w'.ownsRow W.heap.size 9 1 v (candL s.data.toList X d).length ((candL s.data.toList X d).map sV) ∧ Below W.heap.size W w' := by
  obtain ⟨i1, hj1, hy0, hy1, hy2⟩ := info_parts info_str
  rcases clean_fail (l := s.data.toList) with ⟨n, r, hq⟩ | hq
  · obtain ⟨N, hN⟩ : ∃ N, bsl n = N := ⟨_, rfl⟩
    have h1 := rclean_to s W n r true (by omega) hq N hN
    have hlen := clean_len hq
    have hNs : N.size = n.length := by rw [← hN]; exact bsl_size n
    have hNd : N.data.toList = n := by rw [← hN]
    cases r
    · have hres := cand_yes (X := X) (d := d) hq
      have H1 := Lib.hid h1
      have HN := Lib.hid hN
      have HX := Lib.hid hX
      have HXS := Lib.hid hXs
      have HIN := Lib.hid hin
      have HND := Lib.hid hNd
      have hN253 : N.size ≤ 253 := by omega
      obtain ⟨M, hM⟩ : ∃ M, X.take 6 = M := ⟨_, rfl⟩
      obtain ⟨q, hq⟩ : ∃ q, M.length = q := ⟨_, rfl⟩
      have hq6 : q = min 6 n0 := by rw [← hq, ← hM, List.length_take, HX.out]
      have hqc : q ≤ 6 ∧ q ≤ n0 ∧ (q = 6 ∨ q = n0) := by omega
      have HQ := Lib.hid hq
      have hMin : TxtIn W ad M := by rw [← hM]; exact HIN.out.take 6
      have hMs : ∀ x ∈ M, x.length ≤ 1000 := by rw [← hM]; exact fun x hx => HXS.out x (List.mem_of_mem_take hx)
      have HMIN := Lib.hid hMin
      have HMS := Lib.hid hMs
      obtain ⟨cn, hcn⟩ : ∃ cn, n.count 46 = cn := ⟨_, rfl⟩
      have hrd := fun w => rdots_calls N w (by omega)
      rw [hNd, hcn] at hrd
      rw [hM, hcn] at hres
      obtain ⟨A0, hA0⟩ : ∃ A, (if (cn : Int) < d then ([] : List (List UInt8)) else [n]) = A := ⟨_, rfl⟩
      have hres2 : candL s.data.toList X d = if (cn : Int) < d then dd (dd A0 (moreL n M)) [n] else dd A0 (moreL n M) := by
        rw [hres, ← hA0]
        by_cases h : (cn : Int) < d
        · rw [if_pos h, if_pos h, if_pos h, dd_app]
        · rw [if_neg h, if_neg h, if_neg h]
          rfl
      have HRES := Lib.hid hres2
      have HA0 := Lib.hid hA0
      have HRD := Lib.hid hrd
      have hA01 : A0.length ≤ 1 := by rw [← hA0]; split <;> simp
      have hdec : decide (d ≤ (cn : Int)) = !decide ((cn : Int) < d) := by
        by_cases h : (cn : Int) < d
        · rw [decide_eq_true h, decide_eq_false (by omega)]; rfl
        · rw [decide_eq_false h, decide_eq_true (by omega)]; rfl
      have HDEC := Lib.hid hdec
      obtain ⟨fb, hfb⟩ : ∃ b, decide ((cn : Int) < d) = b := ⟨_, rfl⟩
      rw [hfb] at hdec
      have HDEC2 := Lib.hid hdec
      have HFB := Lib.hid hfb
      clear h1 hres hres2 hN hX hXs hin hq hNs hlen hNd hM hMin hMs hq6 hcn hrd hA0 hdec hfb HIN HXS HX
      obtain ⟨hq6, hqn, hqe⟩ := hqc
      go_enter Tryd.func35, Tryd.ntmps35
      go_upto_region 7 with (first
        | (go_at_call 39; refine H1.out.mono ?_; rintro e w2 ⟨rfl, hb2⟩; have HB2 := Lib.hid hb2; clear hb2)
        | fail)
      go_cut [11] (fun fv wx => fv = .bool (!fb) ∧ Below W.heap.size W wx)
      case first =>
        go_wp2_with (first
          | (go_at_call 69; refine (HRD.out _).mono ?_; rintro e w3 ⟨rfl, hb3⟩; have HB3 := Lib.hid (lb.below_then HB2.out hb3); clear hb3)
          | fail)
        go_meet
        exact ⟨by rw [← HDEC2.out], HB3.out⟩
      case rest =>
      obtain ⟨rfl, hb⟩ := hcut
      have HB3 := Lib.hid hb
      clear hb
      go_upto_if 34 with fail
      go_cut [10] (fun lv wx => wx.ownsRow W.heap.size 9 1 lv A0.length (A0.map sV) ∧ Below W.heap.size W wx)
      case first =>
        cases fb
        · have hA : [n] = A0 := by
            rw [← HA0.out, if_neg]
            have := HFB.out
            simpa using this
          have HA := Lib.hid hA
          clear hA
          go_wp2_with (first
            | (at_builtin; refine lb.app1 rfl (.tmp 35) (.tmp 37) 33 rfl 9 i1 (.string ⟨#[]⟩) 1 16 Tryd.underlying33 hj1 hy0 hy1 hy2 rfl (by decide) W _ _ 0 [] [.string N] rfl (lb.own_nil _ _ _ _) HB3.out rfl rfl (by intro u hu; simp at hu; subst hu; rfl) (by omega) (by omega) ?_; intro v4 w5 ho4 hb4 hk4; have HO5 := Lib.hid ho4; have HB5 := Lib.hid hb4; clear ho4 hb4 hk4)
            | fail)
          go_meet
          refine ⟨lb.own_cast HO5.out ?_ (by rw [← HA.out]; rfl), HB5.out⟩
          rw [← HA.out, ← HN.out]
          rfl
        · have hA : [] = A0 := by
            rw [← HA0.out, if_pos]
            have := HFB.out
            simpa using this
          have HA := Lib.hid hA
          clear hA
          go_wp2_with fail
          go_meet
          refine ⟨?_, HB3.out⟩
          rw [← HA.out]
          exact lb.own_nil _ _ _ _
      case rest =>
      obtain ⟨ho, hb⟩ := hcut
      have HO0 := Lib.hid ho
      have HB4 := Lib.hid hb
      clear ho hb HB3 HB2
      go_upto_block 0 with fail
      go_cut [10] (fun lv wx => wx.ownsRow W.heap.size 9 1 lv (dd A0 (moreL n M)).length ((dd A0 (moreL n M)).map sV) ∧ Below W.heap.size W wx)
      case first =>
        go_wp2_with fail
        go_loopw [10, 12] (fun mv iv wr => ∃ k : Nat, k ≤ q ∧ iv = .int .i64 k ∧ wr.ownsRow W.heap.size 9 1 mv (dd A0 (moreL n (M.take k))).length ((dd A0 (moreL n (M.take k))).map sV) ∧ Below W.heap.size W wr) (fun _ iv _ => q - (intOf iv).toNat)
        case atStart => exact ⟨0, Nat.zero_le _, rfl, HO0.out, HB4.out⟩
        case round =>
          obtain ⟨k, hk, rfl, ho, hb⟩ := hrel
          obtain ⟨al, cl, rfl⟩ := lb.own_shape ho
          have hml := moreL_len n (M.take k)
          have hmk : (M.take k).length ≤ k := by simp; omega
          have hdl := dd_len (moreL n (M.take k)) A0
          have HB := Lib.hid hb
          by_cases hlt : k < q
          · have hkX : k < M.length := by rw [HQ.out]; exact hlt
            obtain ⟨b, o, rfl, hcell⟩ := HMIN.out.resolve_left (by intro h0; rw [h0] at hkX; cases hkX)
            have e1 := (HB.out.cell (p := ⟨b, o + k, none⟩) (World.block_lt_of_cell? W _ (hcell k hkX))).trans (hcell k hkX)
            have hx1 := HMS.out _ (List.getElem_mem hkX)
            have hnx := moreL_next n M k hkX
            obtain ⟨x, hx⟩ : ∃ x, M[k] = x := ⟨_, rfl⟩
            rw [hx] at e1 hx1 hnx
            have hnx2 : dd A0 (moreL n (M.take (k + 1))) = dd (dd A0 (moreL n (M.take k))) (one n x) := by rw [hnx, dd_app]
            obtain ⟨Z, hZ⟩ : ∃ Z, dd A0 (moreL n (M.take k)) = Z := ⟨_, rfl⟩
            rw [hZ] at hnx2 ho hdl ⊢
            have hZ7 : Z.length ≤ 7 := by omega
            have HNX := Lib.hid hnx2
            have HO := Lib.hid ho
            obtain ⟨S, hS⟩ : ∃ S, bsl x = S := ⟨_, rfl⟩
            have hSd : S.data.toList = x := by rw [← hS]
            have hSs : S.size ≤ 1000 := by rw [← hS, bsl_size]; exact hx1
            rw [hS] at e1
            have hkn : k < n0 ∧ k < 6 := by omega
            clear hcell hnx hnx2 hx hS hx1 ho hb hZ hdl hml hmk
            rcases clean_fail (l := x) with ⟨dn, r2, hd⟩ | hd
            · obtain ⟨D, hD⟩ : ∃ D, bsl dn = D := ⟨_, rfl⟩
              have hDl := clean_len hd
              have hDs : D.size ≤ 253 := by rw [← hD, bsl_size]; exact hDl
              have hcl := rclean_to S wr dn r2 true (by omega) (by rw [hSd]; exact hd) D hD
              have HCL := Lib.hid hcl
              have hcat : (N ++ ⟨#[46]⟩ ++ D).data.toList = n ++ [46] ++ dn := by rw [← HN.out, ← hD, cat3]
              have hcs : (N ++ ⟨#[46]⟩ ++ D).size ≤ 1000000 := by
                rw [← HN.out, ← hD, cat3, bsl_size]
                have hnl : n.length = N.size := by rw [← HN.out, bsl_size]
                simp
                omega
              rcases clean_fail (l := n ++ [46] ++ dn) with ⟨fn, r3, hf⟩ | hf
              · obtain ⟨F, hF⟩ : ∃ F, bsl fn = F := ⟨_, rfl⟩
                have hfc := fun w => rclean_to (N ++ ⟨#[46]⟩ ++ D) w fn r3 true hcs (by rw [hcat]; exact hf) F hF
                have HFC := Lib.hid hfc
                have hone : dd Z (one n x) = if Z.contains fn then Z else Z ++ [fn] := by rw [one_yes hd hf, dd_one]
                have ham : ∀ w, w.ownsRow W.heap.size 9 1 (.slice al Z.length cl) Z.length (Z.map sV) → Calls Tryd.prog 70 #[.slice al Z.length cl, .string F] w fun e w' => e = .returned (.bool (Z.contains fn)) ∧ w = w' := fun w h => by
                  rw [← hF]
                  exact among_calls w al Z.length cl Z fn rfl (by omega) (own_cap h) (txt_own h)
                have HF := Lib.hid hF
                have HONE := Lib.hid hone
                generalize hbc : Z.contains fn = bc at *
                have HAM := Lib.hid ham
                clear hcl hfc hcat hcs hf hd hD hDl hSd hF ham hone hbc
                cases bc
                · go_wp2_with (first
                    | (go_at_call 39; (with_reducible refine HCL.out.mono ?_); rintro e w3 ⟨rfl, hb3⟩; have HB3 := Lib.hid (lb.below_then HB.out hb3); have HO3 := Lib.hid (lb.own_later HO.out hb3); clear hb3)
                    | (go_at_call 39; refine (HFC.out w3).mono ?_; rintro e w4 ⟨rfl, hb4⟩; have HB4' := Lib.hid (lb.below_then HB3.out hb4); have HO4 := Lib.hid (lb.own_later HO3.out hb4); clear hb4)
                    | (go_at_call 70; refine (HAM.out w4 HO4.out).mono ?_; rintro e w5 ⟨rfl, rfl⟩)
                    | (at_builtin; refine lb.app1 rfl (.tmp 76) (.tmp 78) 33 rfl 9 i1 (.string ⟨#[]⟩) 1 16 Tryd.underlying33 hj1 hy0 hy1 hy2 rfl (by decide) W _ _ Z.length _ [.string F] rfl HO4.out HB4'.out rfl rfl (by intro u hu; simp at hu; subst hu; rfl) (by omega) (by omega) ?_; intro v4 w5 ho4 hb4 hk4; have HO5 := Lib.hid ho4; have HB5 := Lib.hid hb4; clear ho4 hb4 hk4)
                    | fail)
                  refine ⟨⟨k + 1, by omega, by go_num, ?_, HB5.out⟩, by simp [intOf]; omega⟩
                  rw [HNX.out, HONE.out, if_neg (by first | simp | (intro h; cases h))]
                  refine lb.own_cast HO5.out ?_ (by simp)
                  rw [← HF.out]
                  simp
                · go_wp2_with (first
                    | (go_at_call 39; (with_reducible refine HCL.out.mono ?_); rintro e w3 ⟨rfl, hb3⟩; have HB3 := Lib.hid (lb.below_then HB.out hb3); have HO3 := Lib.hid (lb.own_later HO.out hb3); clear hb3)
                    | (go_at_call 39; refine (HFC.out w3).mono ?_; rintro e w4 ⟨rfl, hb4⟩; have HB4' := Lib.hid (lb.below_then HB3.out hb4); have HO4 := Lib.hid (lb.own_later HO3.out hb4); clear hb4)
                    | (go_at_call 70; refine (HAM.out w4 HO4.out).mono ?_; rintro e w5 ⟨rfl, rfl⟩)
                    | fail)
                  refine ⟨⟨k + 1, by omega, by go_num, ?_, HB4'.out⟩, by simp [intOf]; omega⟩
                  rw [HNX.out, HONE.out, if_pos (by trivial)]
                  exact HO4.out
              · have hfc := fun w => rclean_to (N ++ ⟨#[46]⟩ ++ D) w [] false false hcs (by rw [hcat]; exact hf) (bsl []) rfl
                have HFC := Lib.hid hfc
                have HONE := Lib.hid (one_no2 hd (by rw [hf]))
                clear hcl hfc hcat hcs hf hd hD hDl hSd
                go_wp2_with (first
                  | (go_at_call 39; (with_reducible refine HCL.out.mono ?_); rintro e w3 ⟨rfl, hb3⟩; have HB3 := Lib.hid (lb.below_then HB.out hb3); have HO3 := Lib.hid (lb.own_later HO.out hb3); clear hb3)
                  | (go_at_call 39; refine (HFC.out w3).mono ?_; rintro e w4 ⟨rfl, hb4⟩; have HB4' := Lib.hid (lb.below_then HB3.out hb4); have HO4 := Lib.hid (lb.own_later HO3.out hb4); clear hb4)
                  | fail)
                refine ⟨⟨k + 1, by omega, by go_num, ?_, HB4'.out⟩, by simp [intOf]; omega⟩
                rw [HNX.out, HONE.out]
                exact HO4.out
            · have hcl := rclean_to S wr [] false false (by omega) (by rw [hSd]; exact hd) (bsl []) rfl
              have HCL := Lib.hid hcl
              have HONE := Lib.hid (one_no (n := n) (by rw [hd]))
              clear hcl hd hSd
              go_wp2_with (first
                | (go_at_call 39; (with_reducible refine HCL.out.mono ?_); rintro e w3 ⟨rfl, hb3⟩; have HB3 := Lib.hid (lb.below_then HB.out hb3); have HO3 := Lib.hid (lb.own_later HO.out hb3); clear hb3)
                | fail)
              refine ⟨⟨k + 1, by omega, by go_num, ?_, HB3.out⟩, by simp [intOf]; omega⟩
              rw [HNX.out, HONE.out]
              exact HO3.out
          · obtain rfl : k = q := by omega
            have hfull : M.take k = M := by rw [← HQ.out, List.take_length]
            rw [hfull] at ho ⊢
            have HOF := Lib.hid ho
            clear ho hb hfull hml hmk hdl
            rcases (show ¬ k < n0 ∨ (k < n0 ∧ ¬ k < 6) by omega) with hx | ⟨hx, hy⟩
            · go_wp2_with fail
              go_meet
              exact ⟨HOF.out, HB.out⟩
            · go_wp2_with fail
              go_meet
              exact ⟨HOF.out, HB.out⟩
      case rest =>
      obtain ⟨ho, hb⟩ := hcut
      have hml := moreL_len n M
      rw [HQ.out] at hml
      have hdl := dd_len (moreL n M) A0
      obtain ⟨Z, hZ⟩ : ∃ Z, dd A0 (moreL n M) = Z := ⟨_, rfl⟩
      rw [hZ] at ho hdl
      have hZ7 : Z.length ≤ 7 := by omega
      have hres := HRES.out
      rw [hZ] at hres
      have HRES2 := Lib.hid hres
      obtain ⟨al, cl, rfl⟩ := lb.own_shape ho
      have HO := Lib.hid ho
      have HB := Lib.hid hb
      clear ho hb hml hdl hZ hres
      cases fb
      · have hfin : candL s.data.toList X d = Z := by
          rw [HRES2.out, if_neg]
          have := HFB.out
          simpa using this
        have HFIN := Lib.hid hfin
        clear hfin
        go_wp2_with fail
        go_ret
        exact ⟨_, rfl, by rw [HFIN.out]; exact HO.out, HB.out⟩
      · have hfin : candL s.data.toList X d = if Z.contains n then Z else Z ++ [n] := by
          rw [HRES2.out, if_pos, dd_one]
          have := HFB.out
          simpa using this
        have ham : ∀ w, w.ownsRow W.heap.size 9 1 (.slice al Z.length cl) Z.length (Z.map sV) → Calls Tryd.prog 70 #[.slice al Z.length cl, .string N] w fun e w' => e = .returned (.bool (Z.contains n)) ∧ w = w' := fun w h => by
          rw [← HN.out]
          exact among_calls w al Z.length cl Z n rfl (by omega) (own_cap h) (txt_own h)
        have HFIN := Lib.hid hfin
        generalize hbc : Z.contains n = bc at *
        have HAM := Lib.hid ham
        clear ham hbc hfin
        cases bc
        · go_wp2_with (first
            | (go_at_call 70; refine (HAM.out _ HO.out).mono ?_; rintro e w5 ⟨rfl, rfl⟩)
            | (at_builtin; refine lb.app1 rfl (.tmp 88) (.tmp 90) 33 rfl 9 i1 (.string ⟨#[]⟩) 1 16 Tryd.underlying33 hj1 hy0 hy1 hy2 rfl (by decide) W _ _ Z.length _ [.string N] rfl HO.out HB.out rfl rfl (by intro u hu; simp at hu; subst hu; rfl) (by omega) (by omega) ?_; intro v4 w6 ho4 hb4 hk4; have HO6 := Lib.hid ho4; have HB6 := Lib.hid hb4; clear ho4 hb4 hk4)
            | fail)
          go_ret
          refine ⟨_, rfl, ?_, HB6.out⟩
          rw [HFIN.out, if_neg (by first | simp | (intro h; cases h))]
          refine lb.own_cast HO6.out ?_ (by simp)
          rw [← HN.out]
          simp
        · go_wp2_with (first
            | (go_at_call 70; refine (HAM.out _ HO.out).mono ?_; rintro e w5 ⟨rfl, rfl⟩)
            | fail)
          go_ret
          exact ⟨_, rfl, by rw [HFIN.out, if_pos (by trivial)]; exact HO.out, HB.out⟩
    · have hres := cand_root (X := X) (d := d) hq
      have H1 := Lib.hid h1
      have HRES := Lib.hid hres
      have HN := Lib.hid hN
      clear h1 hres hN hq hNs hlen hNd
      go_enter Tryd.func35, Tryd.ntmps35
      go_wp2_with (first
        | (go_at_call 39; refine H1.out.mono ?_; rintro e w2 ⟨rfl, hb2⟩; have HB2 := Lib.hid hb2; clear hb2)
        | fail)
      go_ret
      refine ⟨_, rfl, ?_, HB2.out.alloc HB2.out.size _⟩
      rw [HRES.out]
      have := lb.own_base (own_text w2 n) HB2.out.size
      rw [HN.out] at this
      exact this
  · have h1 := rclean_to s W [] false false (by omega) hq (bsl []) rfl
    have H1 := Lib.hid h1
    have HRES := Lib.hid (cand_no (X := X) (d := d) hq)
    clear h1 hq
    go_enter Tryd.func35, Tryd.ntmps35
    go_wp2_with (first
      | (go_at_call 39; refine H1.out.mono ?_; rintro e w2 ⟨rfl, hb2⟩; have HB2 := Lib.hid hb2; clear hb2)
      | fail)
    go_ret
    exact ⟨_, rfl, by rw [HRES.out]; exact lb.own_nil _ _ _ _, HB2.out⟩
end Go.Proofs.YtkjjidmchepjcaaDoor.nm
