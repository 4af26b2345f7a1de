/- names.Candidates and the reference's: what they make of a name and a search list. -/
import Derived.Test.YtkjjidmchepjcaaDoorProg
import Derived.WalkKit
import Derived.ProofKit
import Derived.Lib.Hide
import Derived.WalkLawsBesides
import Derived.WalkSpells
import Derived.Deep.RegionWith
import Derived.Deep.QuietTactic
import Derived.BigQuiet
import Derived.Deep.DeepCutAuto
import Derived.Deep.CutBlock
import Derived.OwnWalk
import Derived.Test.YtkjjidmchepjcaaDoorNG
namespace Go.Proofs.YtkjjidmchepjcaaDoor.nm
open Go Go.RowKit
set_option linter.unusedVariables false
set_option linter.unusedSimpArgs false
theorem cat3 (n d : List UInt8) : bsl n ++ ⟨#[46]⟩ ++ bsl d = bsl (n ++ [46] ++ d) := by
  rw [show (⟨#[46]⟩ : ByteArray) = bsl [46] from rfl, bsl_app, bsl_app]
theorem bsl_size (l : List UInt8) : (bsl l).size = l.length := by
  show l.toArray.size = _
  simp
theorem clean_len {l n : List UInt8} {r : Bool} (h : cleanL l = (n, r, true)) : n.length ≤ 253 := (clean_again h).2
/-- Clean, its three values told. -/
theorem clean_to (s : ByteArray) (m : Int) (W : World) (n : List UInt8) (r ok : Bool) (hs : s.size ≤ 1000000) (hm : W.cell? ⟨0, 0, none⟩ = some (.int .i64 m)) (h : cleanL s.data.toList = (n, r, ok)) (N : ByteArray) (hN : bsl n = N) :
    Calls Tryd.prog 37 #[.string s] W fun e w' => e = .returned (.tuple #[.string N, .bool r, .bool ok]) ∧ Below W.heap.size W w' := by
  have := clean_calls s m W hs hm
  rw [h] at this
  subst hN
  exact this
theorem rclean_to (s : ByteArray) (W : World) (n : List UInt8) (r ok : Bool) (hs : s.size ≤ 1000000) (h : cleanL s.data.toList = (n, r, ok)) (N : ByteArray) (hN : bsl n = N) :
    Calls Tryd.prog 39 #[.string s] W fun e w' => e = .returned (.tuple #[.string N, .bool r, .bool ok]) ∧ Below W.heap.size W w' := by
  have := rclean_calls s W hs
  rw [h] at this
  subst hN
  exact this
theorem MaxAt {W w : World} {m : Int} (h : W.cell? ⟨0, 0, none⟩ = some (.int .i64 m)) (hb : Below W.heap.size W w) : w.cell? ⟨0, 0, none⟩ = some (.int .i64 m) :=
  (hb.cell (p := ⟨0, 0, none⟩) (World.block_lt_of_cell? W _ h)).trans h
theorem cand_no {l : List UInt8} {X : List (List UInt8)} {d : Int} (h : cleanL l = ([], false, false)) : candL l X d = [] := by
  unfold candL; rw [h]; rfl
theorem cand_root {l n : List UInt8} {X : List (List UInt8)} {d : Int} (h : cleanL l = (n, true, true)) : candL l X d = [n] := by
  unfold candL; rw [h]; rfl
theorem cand_yes {l n : List UInt8} {X : List (List UInt8)} {d : Int} (h : cleanL l = (n, false, true)) : candL l X d = dd [] (if (n.count 46 : Int) < d then moreL n (X.take 6) ++ [n] else n :: moreL n (X.take 6)) := by
  unfold candL; rw [h]; rfl
theorem own_text (w : World) (n : List UInt8) : (w.alloc (.cells #[.string (bsl n)] 9)).ownsRow w.heap.size 9 1 (.slice (some ⟨w.heap.size, 0, none⟩) 1 1) 1 [sV n] := lb.own_made w 9 1 [sV n] rfl (by decide)
set_option maxRecDepth 100000 in
set_option maxHeartbeats 16000000 in
theorem cand_calls (s : ByteArray) (m : Int) (W : World) (ad : Option Addr) (n0 cp : Nat) (X : List (List UInt8)) (d : Int) (hs : s.size ≤ 1000) (hm : W.cell? ⟨0, 0, none⟩ = some (.int .i64 m)) (hX : X.length = n0) (hn0 : n0 ≤ 1000) (hcp : n0 ≤ cp) (hXs : ∀ x ∈ X, x.length ≤ 1000) (hin : TxtIn W ad X) :
    Calls Tryd.prog 34 #[.string s, .slice ad n0 cp, .int .i64 d] W fun e w' => ∃ v, e = .returned v ∧ w'.ownsRow W.heap.size 9 1 v (candL s.data.toList X d).length ((candL s.data.toList X d).map sV) ∧ Below W.heap.size W w' := by
  obtain ⟨i1, hj1, hy0, hy1, hy2⟩ := info_parts info_str
  rcases clean_fail (l := s.data.toList) with ⟨n, r, hq⟩ | hq
  · obtain ⟨N, hN⟩ : ∃ N, bsl n = N := ⟨_, rfl⟩
    have h1 := clean_to s m W n r true (by omega) hm hq N hN
    have hlen := clean_len hq
    have hNs : N.size = n.length := by rw [← hN]; exact bsl_size n
    have hNd : N.data.toList = n := by rw [← hN]
    cases r
    · have hres := cand_yes (X := X) (d := d) hq
      have H1 := Lib.hid h1
      have HRES := Lib.hid hres
      have HN := Lib.hid hN
      have HM := Lib.hid hm
      have HX := Lib.hid hX
      have HXS := Lib.hid hXs
      have HIN := Lib.hid hin
      have HND := Lib.hid hNd
      have hN253 : N.size ≤ 253 := by omega
      clear h1 hres hN hm hX hXs hin hq hNs hlen hNd
      obtain ⟨M, hM⟩ : ∃ M, X.take 6 = M := ⟨_, rfl⟩
      obtain ⟨q, hq⟩ : ∃ q, M.length = q := ⟨_, rfl⟩
      have hq6 : q = min 6 n0 := by rw [← hq, ← hM, List.length_take, HX.out]
      have hqc : (q = n0 ∧ n0 ≤ 6) ∨ (q = 6 ∧ 6 < n0) := by omega
      have HMX := Lib.hid hM
      have HQ := Lib.hid hq
      have hMin : TxtIn W ad M := by rw [← hM]; exact HIN.out.take 6
      have hMs : ∀ x ∈ M, x.length ≤ 1000 := by rw [← hM]; exact fun x hx => HXS.out x (List.mem_of_mem_take hx)
      have HMIN := Lib.hid hMin
      have HMS := Lib.hid hMs
      clear hM hq hMin hMs
      go_enter Tryd.func34, Tryd.ntmps34
      go_upto_region 7 with (first
        | (go_at_call 37; refine H1.out.mono ?_; rintro e w2 ⟨rfl, hb2⟩; have HB2 := Lib.hid hb2; clear hb2)
        | fail)
      go_cut [38, 39, 40] (fun sv lv iv wx => sv = .slice ad q cp ∧ lv = .int .i64 (q : Int) ∧ iv = .int .i64 0 ∧ wx = w2)
      case first =>
        have hq0 : q ≤ cp := by omega
        rcases hqc with ⟨rfl, h6⟩ | ⟨rfl, h6⟩
        · clear hq6
          go_wp2
          all_goals (go_meet; exact ⟨by first | rfl | (congr 1; omega), by first | rfl | (congr 1; omega), by first | rfl | (congr 1; omega), by trivial⟩)
        · clear hq6
          go_wp2
          all_goals (go_meet; exact ⟨by first | rfl | (congr 1; omega), by first | rfl | (congr 1; omega), by first | rfl | (congr 1; omega), by trivial⟩)
      case rest =>
      obtain ⟨rfl, rfl, rfl, rfl⟩ := hcut
      have hqle : q ≤ 6 ∧ q ≤ cp := by omega
      clear hqc hq6
      obtain ⟨hq6, hqcp⟩ := hqle
      go_upto_block 0 with fail
      go_cut [10] (fun mv wx => wx.ownsRow W.heap.size 9 1 mv (moreL n M).length ((moreL n M).map sV) ∧ Below W.heap.size W wx)
      case first =>
        go_wp2_with fail
        go_loopw [10, 40] (fun mv iv wr => ∃ k : Nat, k ≤ q ∧ iv = .int .i64 k ∧ wr.ownsRow W.heap.size 9 1 mv (moreL n (M.take k)).length ((moreL n (M.take k)).map sV) ∧ Below W.heap.size W wr) (fun _ iv _ => q - (intOf iv).toNat)
        case atStart => exact ⟨0, Nat.zero_le _, rfl, lb.own_nil _ _ _ _, HB2.out⟩
        case round =>
          obtain ⟨k, hk, rfl, ho, hb⟩ := hrel
          obtain ⟨al, cl, rfl⟩ := lb.own_shape ho
          have HO := Lib.hid ho
          have HB := Lib.hid hb
          have hml := moreL_len n (M.take k)
          have hmk : (M.take k).length ≤ k := by simp; omega
          obtain ⟨L, hL⟩ : ∃ L, (moreL n (M.take k)).length = L := ⟨_, rfl⟩
          rw [hL] at hml ho
          have HLL := Lib.hid hL
          have hL6 : L ≤ 6 := by omega
          clear ho hb hml hmk hL
          by_cases hlt : k < q
          · have hkX : k < M.length := by rw [HQ.out]; exact hlt
            obtain ⟨b, o, rfl, hcell⟩ := HMIN.out.resolve_left (by intro h0; rw [h0] at hkX; cases hkX)
            have e1 := (HB.out.cell (p := ⟨b, o + k, none⟩) (World.block_lt_of_cell? W _ (hcell k hkX))).trans (hcell k hkX)
            have hx1 := HMS.out _ (List.getElem_mem hkX)
            have hnx := moreL_next n M k hkX
            obtain ⟨x, hx⟩ : ∃ x, M[k] = x := ⟨_, rfl⟩
            rw [hx] at e1 hx1 hnx
            have HNX := Lib.hid hnx
            obtain ⟨S, hS⟩ : ∃ S, bsl x = S := ⟨_, rfl⟩
            have hSd : S.data.toList = x := by rw [← hS]
            have hSs : S.size ≤ 1000 := by rw [← hS, bsl_size]; exact hx1
            rw [hS] at e1
            clear hcell hnx hx hS hx1
            rcases clean_fail (l := x) with ⟨dn, r2, hd⟩ | hd
            · obtain ⟨D, hD⟩ : ∃ D, bsl dn = D := ⟨_, rfl⟩
              have hDl := clean_len hd
              have hDs : D.size ≤ 253 := by rw [← hD, bsl_size]; exact hDl
              have hcl := clean_to S m wr dn r2 true (by omega) (MaxAt HM.out HB.out) (by rw [hSd]; exact hd) D hD
              have HCL := Lib.hid hcl
              have hcat : (N ++ ⟨#[46]⟩ ++ D).data.toList = n ++ [46] ++ dn := by rw [← HN.out, ← hD, cat3]
              have hcs : (N ++ ⟨#[46]⟩ ++ D).size ≤ 1000000 := by
                rw [← HN.out, ← hD, cat3, bsl_size]
                have := congrArg List.length HND.out
                have hnl : n.length = N.size := by rw [← HN.out, bsl_size]
                simp
                omega
              rcases clean_fail (l := n ++ [46] ++ dn) with ⟨fn, r3, hf⟩ | hf
              · obtain ⟨F, hF⟩ : ∃ F, bsl fn = F := ⟨_, rfl⟩
                have hfc := fun w hb => clean_to (N ++ ⟨#[46]⟩ ++ D) m w fn r3 true hcs (MaxAt HM.out hb) (by rw [hcat]; exact hf) F hF
                have HFC := Lib.hid hfc
                have HONE := Lib.hid (one_yes hd hf)
                have HF := Lib.hid hF
                clear hcl hfc hcat hcs hf hd hD hDl hSd hF
                go_wp2_with (first
                  | (go_at_call 37; (with_reducible refine HCL.out.mono ?_); rintro e w3 ⟨rfl, hb3⟩; have HB3 := Lib.hid (lb.below_then HB.out hb3); have HO3 := Lib.hid (lb.own_later HO.out hb3); clear hb3)
                  | (go_at_call 37; refine (HFC.out w3 HB3.out).mono ?_; rintro e w4 ⟨rfl, hb4⟩; have HB4 := Lib.hid (lb.below_then HB3.out hb4); have hO4 := lb.own_later HO3.out hb4; rw [HLL.out] at hO4; have HO4 := Lib.hid hO4; clear hb4 hO4)
                  | (at_builtin; refine lb.app1 rfl (.tmp 63) (.tmp 65) 33 rfl 9 i1 (.string ⟨#[]⟩) 1 16 Tryd.underlying33 hj1 hy0 hy1 hy2 rfl (by decide) W _ _ L _ [.string F] (by rw [HLL.out]; rfl) HO4.out HB4.out rfl rfl (by intro u hu; simp at hu; subst hu; rfl) (by omega) (by omega) ?_; intro v4 w5 ho4 hb4 hk4; have HO5 := Lib.hid ho4; have HB5 := Lib.hid hb4; clear ho4 hb4 hk4)
                  | fail)
                refine ⟨⟨k + 1, by omega, by go_num, ?_, HB5.out⟩, by simp [intOf]; omega⟩
                have := HO5.out
                rw [HNX.out, HONE.out]
                refine lb.own_cast this ?_ ?_
                · rw [← HF.out]; simp
                · simp [HLL.out]
              · have hfc := fun w hb => clean_to (N ++ ⟨#[46]⟩ ++ D) m w [] false false hcs (MaxAt HM.out hb) (by rw [hcat]; exact hf) (bsl []) rfl
                have HFC := Lib.hid hfc
                have HONE := Lib.hid (one_no2 hd (by rw [hf]))
                clear hcl hfc hcat hcs hf hd hD hDl hSd
                go_wp2_with (first
                  | (go_at_call 37; (with_reducible refine HCL.out.mono ?_); rintro e w3 ⟨rfl, hb3⟩; have HB3 := Lib.hid (lb.below_then HB.out hb3); have HO3 := Lib.hid (lb.own_later HO.out hb3); clear hb3)
                  | (go_at_call 37; refine (HFC.out w3 HB3.out).mono ?_; rintro e w4 ⟨rfl, hb4⟩; have HB4 := Lib.hid (lb.below_then HB3.out hb4); have hO4 := lb.own_later HO3.out hb4; have HO4 := Lib.hid hO4; clear hb4 hO4)
                  | fail)
                refine ⟨⟨k + 1, by omega, by go_num, ?_, HB4.out⟩, by simp [intOf]; omega⟩
                rw [HNX.out, HONE.out, List.append_nil]
                exact HO4.out
            · obtain ⟨⟨fn, r3, ok3⟩, hf⟩ : ∃ R, cleanL (n ++ [46] ++ []) = R := ⟨_, rfl⟩
              have hcl := clean_to S m wr [] false false (by omega) (MaxAt HM.out HB.out) (by rw [hSd]; exact hd) (bsl []) rfl
              have HCL := Lib.hid hcl
              have hcat : (N ++ ⟨#[46]⟩ ++ bsl []).data.toList = n ++ [46] ++ [] := by rw [← HN.out, cat3]
              have hcs : (N ++ ⟨#[46]⟩ ++ bsl []).size ≤ 1000000 := by
                rw [← HN.out, cat3, bsl_size]
                have hnl : n.length = N.size := by rw [← HN.out, bsl_size]
                simp
                omega
              have hfc := fun w hb => clean_to (N ++ ⟨#[46]⟩ ++ bsl []) m w fn r3 ok3 hcs (MaxAt HM.out hb) (by rw [hcat]; exact hf) (bsl fn) rfl
              have HFC := Lib.hid hfc
              have HONE := Lib.hid (one_no (n := n) (by rw [hd]))
              clear hcl hfc hcat hcs hf hd hSd
              go_wp2_with (first
                | (go_at_call 37; (with_reducible refine HCL.out.mono ?_); rintro e w3 ⟨rfl, hb3⟩; have HB3 := Lib.hid (lb.below_then HB.out hb3); have HO3 := Lib.hid (lb.own_later HO.out hb3); clear hb3)
                | (go_at_call 37; refine (HFC.out w3 HB3.out).mono ?_; rintro e w4 ⟨rfl, hb4⟩; have HB4 := Lib.hid (lb.below_then HB3.out hb4); have hO4 := lb.own_later HO3.out hb4; have HO4 := Lib.hid hO4; clear hb4 hO4)
                | fail)
              refine ⟨⟨k + 1, by omega, by go_num, ?_, HB4.out⟩, by simp [intOf]; omega⟩
              rw [HNX.out, HONE.out, List.append_nil]
              exact HO4.out
          · obtain rfl : k = q := by omega
            have hfull : M.take k = M := by rw [← HQ.out, List.take_length]
            have hO := HO.out
            rw [hfull] at hO
            have hll := HLL.out
            rw [hfull] at hll
            have HOF := Lib.hid hO
            have HLF := Lib.hid hll
            have HFULL := Lib.hid hfull
            clear hO hfull hll
            go_wp2_with fail
            go_meet
            refine ⟨?_, HB.out⟩
            rw [HFULL.out]
            exact HOF.out
      case rest =>
      obtain ⟨ho, hb⟩ := hcut
      have hml := moreL_len n M
      rw [HQ.out] at hml
      obtain ⟨Y, hY⟩ : ∃ Y, moreL n M = Y := ⟨_, rfl⟩
      rw [hY] at ho hml
      have hres := HRES.out
      rw [HMX.out, hY] at hres
      have HRES2 := Lib.hid hres
      obtain ⟨al, cl, rfl⟩ := lb.own_shape ho
      have HO := Lib.hid ho
      have HB := Lib.hid hb
      have hY6 : Y.length ≤ 6 := by omega
      clear ho hb hml hY hres HRES HMX
      have hdots := fun w => dots_calls N w
      rw [HND.out] at hdots
      have HDOT := Lib.hid hdots
      clear hdots
      obtain ⟨cn, hcn⟩ : ∃ cn, n.count 46 = cn := ⟨_, rfl⟩
      have HCN := Lib.hid hcn
      clear hcn
      have HSTART : Hid ((wc.alloc (.cells #[.string N] 9)).ownsRow W.heap.size 9 1 (.slice (some ⟨wc.heap.size, 0, none⟩) 1 1) 1 [sV n]) := Lib.hid (by
        have := lb.own_base (own_text wc n) HB.out.size
        rw [HN.out] at this
        exact this)
      go_upto_if 75 with (first
        | (at_builtin; refine catT rfl (.tmp 69) (.tmp 70) 33 rfl i1 (.string ⟨#[]⟩) Tryd.underlying33 hj1 hy0 hy1 hy2 rfl W.heap.size _ (.slice (some ⟨wc.heap.size, 0, none⟩) 1 1) 1 [sV n] rfl HSTART.out (Nat.le_trans HB.out.size (lb.below_alloc wc _).size) W.heap.size al cl Y rfl (lb.own_later HO.out (lb.below_alloc wc _)) (by omega) ?_; intro v7 w7 ho7 hg7; have HO7 := Lib.hid ho7; have HG7 := Lib.hid hg7; clear ho7 hg7)
        | (go_at_call 67; refine (HDOT.out w7).mono ?_; rintro e w8 ⟨rfl, rfl⟩; rw [HCN.out])
        | fail)
      have hb7 : Below W.heap.size W w7 := (HB.out.alloc HB.out.size _).grown HG7.out (Nat.le_trans HB.out.size (lb.below_alloc wc _).size) (fun k hk => by
        simp [Value.ownBlock] at hk
        rw [← hk]
        exact HB.out.size)
      have hm7 : w7.ownsRow W.heap.size 9 1 (.slice al Y.length cl) Y.length (Y.map sV) := by
        refine (lb.own_later HO.out (lb.below_alloc wc (.cells #[.string N] 9))).kept HG7.out ?_
        cases hob : (Value.slice al Y.length cl).ownBlock with
        | none => exact .inl rfl
        | some g =>
          refine .inr fun h => ?_
          have := (lb.own_block HO.out g hob).2
          simp [Value.ownBlock] at h
          omega
      have HB7 := Lib.hid hb7
      have HM7 := Lib.hid hm7
      obtain ⟨A, hA⟩ : ∃ A, (if (cn : Int) < d then Y ++ [n] else n :: Y) = A := ⟨_, rfl⟩
      have HA := Lib.hid hA
      have hAl : A.length = Y.length + 1 := by rw [← hA]; split <;> simp
      clear hb7 hm7 hA
      go_cut [19] (fun av wx => wx.ownsRow W.heap.size 9 1 av A.length (A.map sV) ∧ Below W.heap.size W wx)
      case first =>
        rcases (show (cn : Int) < d ∨ ¬ (cn : Int) < d by omega) with hlt | hlt
        · have hA1 : Y ++ [n] = A := by rw [← HA.out, if_pos hlt]
          have HA1 := Lib.hid hA1
          clear hA1
          go_wp2_with (first
            | (at_builtin; refine lb.app1 rfl (.tmp 76) (.tmp 78) 33 rfl 9 i1 (.string ⟨#[]⟩) 1 16 Tryd.underlying33 hj1 hy0 hy1 hy2 rfl (by decide) W _ _ Y.length (Y.map sV) [.string N] rfl HM7.out HB7.out rfl rfl (by intro u hu; simp at hu; subst hu; rfl) (by omega) (by omega) ?_; intro v8 w9 ho8 hb8 hk8; have HO8 := Lib.hid ho8; have HB8 := Lib.hid hb8; clear ho8 hb8 hk8)
            | fail)
          go_meet
          refine ⟨lb.own_cast HO8.out ?_ hAl.symm, HB8.out⟩
          rw [← HA1.out, ← HN.out]
          simp
        · have hA1 : n :: Y = A := by rw [← HA.out, if_neg hlt]
          have HA1 := Lib.hid hA1
          clear hA1
          go_wp2_with fail
          go_meet
          refine ⟨lb.own_cast HO7.out ?_ (by rw [hAl]; omega), HB7.out⟩
          rw [← HA1.out]
          rfl
      case rest =>
      obtain ⟨ho, hb⟩ := hcut
      have hAl7 : A.length ≤ 7 := by omega
      have hcand : candL s.data.toList X d = dd [] A := by rw [HRES2.out, HCN.out, HA.out]
      have HCAND := Lib.hid hcand
      obtain ⟨aa, ca, rfl⟩ := lb.own_shape ho
      have HOA := Lib.hid ho
      have HBA := Lib.hid hb
      clear ho hb hcand hAl
      go_wp2_with fail
      go_loopw [20, 82] (fun ov iv wr => ∃ k : Nat, k ≤ A.length ∧ iv = .int .i64 k ∧ wr.ownsRow wc.heap.size 9 1 ov (dd [] (A.take k)).length ((dd [] (A.take k)).map sV) ∧ Below wc.heap.size wc wr) (fun _ iv _ => A.length - (intOf iv).toNat)
      case atStart => exact ⟨0, Nat.zero_le _, rfl, lb.own_nil _ _ _ _, Below.refl _ _⟩
      case round =>
        obtain ⟨k, hk, rfl, ho, hb⟩ := hrel
        obtain ⟨ao, co, rfl⟩ := lb.own_shape ho
        have hdl := dd_len (A.take k) []
        have hdk : (A.take k).length ≤ k := by simp; omega
        have hdl7 : (dd [] (A.take k)).length ≤ 7 := by simp at hdl; omega
        have HOO := Lib.hid ho
        have HBO := Lib.hid hb
        by_cases hlt : k < A.length
        · have hra := lb.own_later HOA.out hb
          obtain ⟨g, c', hg⟩ := lb.row_addr hra (by omega)
          cases hg
          have e1 := cell_piece hra hlt
          have hnx : dd [] (A.take (k + 1)) = if (dd [] (A.take k)).contains A[k] then dd [] (A.take k) else dd [] (A.take k) ++ [A[k]] := by
            rw [List.take_succ_eq_append_getElem hlt, dd_app, dd_one]
          obtain ⟨x, hx⟩ : ∃ x, A[k] = x := ⟨_, rfl⟩
          rw [hx] at e1 hnx
          obtain ⟨Z, hZ⟩ : ∃ Z, dd [] (A.take k) = Z := ⟨_, rfl⟩
          rw [hZ] at hnx hdl7 ho
          have hct := contains_calls wr wc.heap.size co ao Z.length Z x rfl ho
          obtain ⟨S, hS⟩ : ∃ S, bsl x = S := ⟨_, rfl⟩
          have HS := Lib.hid hS
          have hct2 : Calls Tryd.prog 68 #[.slice ao Z.length co, .string S] wr fun e w' => e = .returned (.bool (Z.contains x)) ∧ wr = w' := by rw [← hS]; exact hct
          rw [hS] at e1
          have HNX := Lib.hid hnx
          have HZ := Lib.hid hZ
          have HOZ := Lib.hid ho
          generalize hbc : Z.contains x = bc at *
          have HCT := Lib.hid hct2
          clear hct hct2 hS hZ hx hnx ho hb hra hdl hdk
          rw [HZ.out]
          cases bc
          · go_wp2_with (first
              | (go_at_call 68; refine HCT.out.mono ?_; rintro e w9 ⟨rfl, rfl⟩)
              | (at_builtin; refine lb.app1 rfl (.tmp 90) (.tmp 92) 33 rfl 9 i1 (.string ⟨#[]⟩) 1 16 Tryd.underlying33 hj1 hy0 hy1 hy2 rfl (by decide) wc _ _ Z.length (Z.map sV) [.string S] rfl HOZ.out HBO.out rfl rfl (by intro u hu; simp at hu; subst hu; rfl) (by omega) (by omega) ?_; intro v8 w9 ho8 hb8 hk8; have HO8 := Lib.hid ho8; have HB8 := Lib.hid hb8; clear ho8 hb8 hk8)
              | fail)
            refine ⟨⟨k + 1, by omega, by go_num, ?_, HB8.out⟩, by simp [intOf]; omega⟩
            rw [HNX.out, if_neg (by first | simp | (intro h; cases h))]
            refine lb.own_cast HO8.out ?_ (by simp)
            rw [← HS.out]
            simp
          · go_wp2_with (first
              | (go_at_call 68; refine HCT.out.mono ?_; rintro e w9 ⟨rfl, rfl⟩)
              | fail)
            refine ⟨⟨k + 1, by omega, by go_num, ?_, HBO.out⟩, by simp [intOf]; omega⟩
            rw [HNX.out, if_pos (by trivial)]
            exact HOZ.out
        · obtain rfl : k = A.length := by omega
          have hfull : dd [] (A.take A.length) = candL s.data.toList X d := by rw [List.take_length, HCAND.out]
          rw [hfull] at ho
          have HFU := Lib.hid ho
          have HFE := Lib.hid hfull
          clear ho hb hfull
          rw [HFE.out]
          go_wp2_with fail
          go_ret
          exact ⟨_, rfl, lb.own_base HFU.out HBA.out.size, lb.below_then HBA.out HBO.out⟩
    · have hres := cand_root (X := X) (d := d) hq
      have H1 := Lib.hid h1
      have HRES := Lib.hid hres
      have HN := Lib.hid hN
      clear h1 hres hN hq hNs hlen hNd
      go_enter Tryd.func34, Tryd.ntmps34
      go_wp2_with (first
        | (go_at_call 37; refine H1.out.mono ?_; rintro e w2 ⟨rfl, hb2⟩; have HB2 := Lib.hid hb2; clear hb2)
        | fail)
      go_ret
      refine ⟨_, rfl, ?_, HB2.out.alloc HB2.out.size _⟩
      rw [HRES.out]
      have := lb.own_base (own_text w2 n) HB2.out.size
      rw [HN.out] at this
      exact this
  · have h1 := clean_to s m W [] false false (by omega) hm hq (bsl []) rfl
    have H1 := Lib.hid h1
    have HRES := Lib.hid (cand_no (X := X) (d := d) hq)
    clear h1 hq
    go_enter Tryd.func34, Tryd.ntmps34
    go_wp2_with (first
      | (go_at_call 37; refine H1.out.mono ?_; rintro e w2 ⟨rfl, hb2⟩; have HB2 := Lib.hid hb2; clear hb2)
      | fail)
    go_ret
    exact ⟨_, rfl, by rw [HRES.out]; exact lb.own_nil _ _ _ _, HB2.out⟩
end Go.Proofs.YtkjjidmchepjcaaDoor.nm
