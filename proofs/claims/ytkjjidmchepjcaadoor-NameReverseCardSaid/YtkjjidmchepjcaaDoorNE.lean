/- names.Clean and the reference's Clean: what they make of a text. -/
import Derived.Test.YtkjjidmchepjcaaDoorProg
import Derived.WalkKit
import Derived.ProofKit
import Derived.Lib.Hide
import Derived.WalkLawsBesides
import Derived.WalkSpells
import Derived.Deep.RegionWith
import Derived.Deep.QuietTactic
import Derived.BigQuiet
import Derived.Deep.DeepCutAuto
import Derived.Deep.CutBlock
import Derived.OwnWalk
import Derived.Test.YtkjjidmchepjcaaDoorND
import Derived.Test.YtkjjidmchepjcaaDoorNB
import Derived.Test.YtkjjidmchepjcaaDoorSH
namespace Go.Proofs.YtkjjidmchepjcaaDoor.nm
open Go Go.RowKit
set_option linter.unusedVariables false
set_option linter.unusedSimpArgs false
theorem dot_last (l : List UInt8) : ([46] : List UInt8).isSuffixOf l = decide (l.getLast? = some 46) := by
  rw [Bool.eq_iff_iff, List.isSuffixOf_iff_suffix, decide_eq_true_eq]
  constructor
  · rintro ⟨t, rfl⟩
    simp
  · intro h
    obtain ⟨t, ht⟩ : ∃ t, l = t ++ [46] := by
      rw [List.getLast?_eq_some_iff] at h
      exact h
    exact ⟨t, ht.symm⟩
theorem root_trim (l : List UInt8) : Lib.trimSuffix l [46] = (root l).1 := by
  unfold Lib.trimSuffix Lib.hasSuffix root
  rw [dot_last]
  by_cases h : l.getLast? = some 46
  · rw [if_pos (by simp [h]), if_pos h]
    simp [List.dropLast_eq_take]
  · rw [if_neg (by simp [h]), if_neg h]
theorem root_has (l : List UInt8) : Lib.hasSuffix l [46] = (root l).2 := by
  unfold Lib.hasSuffix root
  rw [dot_last]
  by_cases h : l.getLast? = some 46
  · rw [if_pos h]; simp [h]
  · rw [if_neg h]; simp [h]
theorem cutsuffix_calls (s : ByteArray) (W : World) (hs : s.size ≤ 9223372036854775807) :
    Calls Tryd.prog 74 #[.string s, .string ⟨#[46]⟩] W fun e w' => e = .returned (.tuple #[sV (root s.data.toList).1, .bool (root s.data.toList).2]) ∧ W = w' := by
  refine (Tryd.strings_CutSuffix s ⟨#[46]⟩ W hs).mono ?_
  rintro e w' ⟨rfl, hw⟩
  refine ⟨?_, hw.symm⟩
  show Ending.returned (.tuple #[.string ⟨(Lib.trimSuffix s.data.toList [46]).toArray⟩, .bool (Lib.hasSuffix s.data.toList [46])]) = _
  rw [root_trim, root_has]
theorem split_calls (s : ByteArray) (m : Int) (W : World) (hs : s.size ≤ 1000000) (hm : W.cell? ⟨0, 0, none⟩ = some (.int .i64 m)) :
    Calls Tryd.prog 75 #[.string s, .string ⟨#[46]⟩] W fun e w' => e = .returned (.slice (some ⟨W.heap.size, 0, none⟩) (spl 46 s.data.toList).length (spl 46 s.data.toList).length) ∧ w'.ownsRow W.heap.size 9 1 (.slice (some ⟨W.heap.size, 0, none⟩) (spl 46 s.data.toList).length (spl 46 s.data.toList).length) (spl 46 s.data.toList).length ((spl 46 s.data.toList).map sV) ∧ Below W.heap.size W w' := by
  refine (Tryd.strings_Split s ⟨#[46]⟩ m W (by omega) hm (by show (1 : Nat) ≤ 1; omega)).mono ?_
  rintro e w' ⟨rfl, rfl⟩
  have h1 : Lib.splitB ⟨#[46]⟩ 0 (Lib.countB s ⟨#[46]⟩) s = (spl 46 s.data.toList).map bsl := by
    have h2 := Lib.splitB_data ⟨#[46]⟩ 0 (Lib.countB s ⟨#[46]⟩) s
    have h3 : Lib.splitK ([46] : List UInt8) 0 (Lib.countB s ⟨#[46]⟩) s.data.toList = spl 46 s.data.toList := splitK_spl 46 _ _ rfl
    have h4 : (Lib.splitB ⟨#[46]⟩ 0 (Lib.countB s ⟨#[46]⟩) s).map (·.data.toList) = spl 46 s.data.toList := h2.trans h3
    rw [← h4, List.map_map]
    conv => lhs; rw [← List.map_id (Lib.splitB ⟨#[46]⟩ 0 (Lib.countB s ⟨#[46]⟩) s)]
    exact List.map_congr_left fun x _ => (bsl_back x).symm
  have hc : Lib.countB s ⟨#[46]⟩ + 1 = (spl 46 s.data.toList).length := by
    rw [← Lib.splitB_all ⟨#[46]⟩ (by show (1 : Nat) ≤ 1; omega) 0 _ s rfl, h1, List.length_map]
  have hle := spl_length 46 s.data.toList
  have hcl : s.data.toList.count 46 ≤ s.data.toList.length := List.count_le_length
  have hsz : s.data.toList.length = s.size := rfl
  rw [h1, hc, List.map_map]
  refine ⟨rfl, ?_, lb.below_alloc W _⟩
  have := lb.own_made W 9 (spl 46 s.data.toList).length ((spl 46 s.data.toList).map sV) (by simp) (by omega)
  exact this
/-- What Clean hands back. -/
abbrev cleanE (p : List UInt8 × Bool × Bool) : Ending := .returned (.tuple #[sV p.1, .bool p.2.1, .bool p.2.2])
theorem cell_piece {w : World} {B g c k : Nat} {X : List (List UInt8)} (h : w.ownsRow B 9 1 (.slice (some ⟨g, 0, none⟩) X.length c) X.length (X.map sV)) (hk : k < X.length) : w.cell? ⟨g, k, none⟩ = some (.string (bsl X[k])) := by
  rw [lb.row_at h hk]
  simp [hk]
theorem all_next {p : List UInt8 → Bool} {X : List (List UInt8)} {k : Nat} (h : (X.take k).all p = true) (hk : k < X.length) (hc : p X[k] = true) : (X.take (k + 1)).all p = true := by
  rw [List.take_succ_eq_append_getElem hk, List.all_append, h]
  simp [hc]
theorem all_stop {p : List UInt8 → Bool} {X : List (List UInt8)} {k : Nat} (hk : k < X.length) (hc : p X[k] = false) : X.all p = false := by
  apply Bool.eq_false_iff.2
  intro h
  have := List.all_eq_true.1 h _ (List.getElem_mem hk)
  rw [hc] at this
  cases this
theorem clean_no {l : List UInt8} (h : okN (root l).1 = false) : cleanL l = ([], false, false) := by
  unfold cleanL
  rw [h]
  rfl
theorem clean_yes {l : List UInt8} (h : okN (root l).1 = true) : cleanL l = (foldL (root l).1, (root l).2, true) := by
  unfold cleanL
  rw [h]
  rfl
theorem root_le (l : List UInt8) : (root l).1.length ≤ l.length := by
  unfold root
  split
  · simp
  · exact Nat.le_refl _
set_option maxRecDepth 100000 in
set_option maxHeartbeats 8000000 in
theorem clean_calls (s : ByteArray) (m : Int) (W : World) (hs : s.size ≤ 1000000) (hm : W.cell? ⟨0, 0, none⟩ = some (.int .i64 m)) :
    Calls Tryd.prog 37 #[.string s] W fun e w' => e = cleanE (cleanL s.data.toList) ∧ Below W.heap.size W w' := by
  have hrl := root_le s.data.toList
  have hlen : s.data.toList.length = s.size := rfl
  rw [hlen] at hrl
  obtain ⟨R, hR⟩ : ∃ R, cleanL s.data.toList = R := ⟨_, rfl⟩
  have hyes := clean_yes (l := s.data.toList)
  have hno := clean_no (l := s.data.toList)
  have hcs := cutsuffix_calls s W (by omega)
  rw [hR] at hyes hno ⊢
  obtain ⟨n, hn⟩ : ∃ n, (root s.data.toList).1 = n := ⟨_, rfl⟩
  obtain ⟨rt, hrt⟩ : ∃ r, (root s.data.toList).2 = r := ⟨_, rfl⟩
  rw [hn] at hrl
  rw [hn, hrt] at hyes hcs
  rw [hn] at hno
  obtain ⟨N, hN⟩ : ∃ N, bsl n = N := ⟨_, rfl⟩
  have hsz : N.size = n.length := by rw [← hN]; show n.toArray.size = _; simp
  have hdat : N.data.toList = n := by rw [← hN]
  have hcs' : Calls Tryd.prog 74 #[.string s, .string ⟨#[46]⟩] W fun e w' => e = .returned (.tuple #[.string N, .bool rt]) ∧ W = w' := by rw [← hN]; exact hcs
  have HCS := Lib.hid hcs'
  have HSZ := Lib.hid hsz
  have HD := Lib.hid hdat
  have HYES := Lib.hid hyes
  have HNO := Lib.hid hno
  have HM := Lib.hid hm
  have hN9 : N.size ≤ 1000000 := by omega
  clear hcs hcs' hsz hdat hyes hno hm hR hn hrt hrl hlen hN
  have hok : okN n = (!n.isEmpty && decide (n.length ≤ 253) && (spl 46 n).all labelB) := rfl
  have hie : n.isEmpty = decide (N.size = 0) := by rw [← HD.out, isEmpty_iff]
  rw [hie, ← HSZ.out] at hok
  have HOK := Lib.hid hok
  clear hok hie
  go_enter Tryd.func37, Tryd.ntmps37
  rcases (show N.size = 0 ∨ 253 < N.size ∨ (0 < N.size ∧ N.size ≤ 253) by omega) with h0 | h0 | ⟨h0, h1⟩
  · have hbad : okN n = false := by rw [HOK.out, decide_eq_true h0]; rfl
    have HR := Lib.hid (HNO.out hbad)
    have e1 := empty_yes N h0
    go_wp2_with (first
      | (go_at_call 74; refine HCS.out.mono ?_; rintro e w2 ⟨rfl, rfl⟩)
      | fail)
    go_ret3
    exact ⟨by rw [HR.out]; rfl, Below.refl _ _⟩
  · have hbad : okN n = false := by rw [HOK.out, decide_eq_false (show ¬ N.size ≤ 253 by omega)]; simp
    have HR := Lib.hid (HNO.out hbad)
    have e1 := empty_no N (by omega)
    go_wp2_with (first
      | (go_at_call 74; refine HCS.out.mono ?_; rintro e w2 ⟨rfl, rfl⟩)
      | fail)
    go_ret3
    exact ⟨by rw [HR.out]; rfl, Below.refl _ _⟩
  · have e1 := empty_no N (by omega)
    have hok2 : okN n = (spl 46 n).all labelB := by
      rw [HOK.out, decide_eq_false (show ¬ N.size = 0 by omega), decide_eq_true h1]
      simp
    have HOK2 := Lib.hid hok2
    have hsp := split_calls N m W (by omega) HM.out
    rw [HD.out] at hsp
    have hshort := spl_short 46 n
    have hql := spl_length 46 n
    have hqc : n.count 46 ≤ n.length := List.count_le_length
    obtain ⟨X, hX⟩ : ∃ X, spl 46 n = X := ⟨_, rfl⟩
    rw [hX] at hsp hok2 hshort hql
    have HOK3 := Lib.hid hok2
    have HSP := Lib.hid hsp
    have HSH := Lib.hid hshort
    have hqx : X.length ≤ 254 := by have := HSZ.out; omega
    clear hok2 hsp hshort hX HOK2 hql hqc
    go_wp2_with (first
      | (go_at_call 74; refine HCS.out.mono ?_; rintro e w2 ⟨rfl, rfl⟩)
      | (go_at_call 75; refine HSP.out.mono ?_; rintro e w3 ⟨rfl, ho3, hb3⟩; have HO3 := Lib.hid ho3; have HB3 := Lib.hid hb3; clear ho3 hb3)
      | fail)
    go_loopw [24] (fun iv wr => ∃ k : Nat, k ≤ X.length ∧ iv = .int .i64 k ∧ (X.take k).all labelB = true ∧ wr = w3) (fun iv _ => X.length - (intOf iv).toNat)
    case atStart => exact ⟨0, Nat.zero_le _, rfl, rfl, rfl⟩
    case round =>
      obtain ⟨k, hk, rfl, hall, rfl⟩ := hrel
      have HALL := Lib.hid hall
      clear hall
      by_cases hlt : k < X.length
      · have hc := cell_piece HO3.out hlt
        have hp := HSH.out _ (List.getElem_mem hlt)
        have hnx := fun h => all_next (p := labelB) HALL.out hlt h
        have hst := fun h => all_stop (p := labelB) (X := X) hlt h
        obtain ⟨p, hpe⟩ : ∃ p, X[k] = p := ⟨_, rfl⟩
        rw [hpe] at hc hp hnx hst
        have HNX := Lib.hid hnx
        have HST := Lib.hid hst
        have hlab := label_calls (bsl p) wr (by have := HSZ.out; show p.toArray.size ≤ _; simp; omega)
        rw [show (bsl p).data.toList = p from rfl] at hlab
        obtain ⟨P, hP⟩ : ∃ P, bsl p = P := ⟨_, rfl⟩
        rw [hP] at hc hlab
        generalize hbl : labelB p = bl at *
        have HLAB := Lib.hid hlab
        clear hnx hst hpe hlab hP hbl hp
        cases bl
        · have HR := Lib.hid (HNO.out (by rw [HOK3.out, HST.out rfl]))
          go_wp2_with (first
            | (go_at_call 76; refine HLAB.out.mono ?_; rintro e w4 ⟨rfl, rfl⟩)
            | fail)
          go_ret3
          exact ⟨by rw [HR.out]; rfl, HB3.out⟩
        · go_wp2_with (first
            | (go_at_call 76; refine HLAB.out.mono ?_; rintro e w4 ⟨rfl, rfl⟩)
            | fail)
          exact ⟨⟨k + 1, by omega, by go_num, (by first | exact HNX.out rfl | exact HNX.out trivial), by trivial⟩, by simp [intOf]; omega⟩
      · obtain rfl : k = X.length := by omega
        have hall : X.all labelB = true := by
          have := HALL.out
          rwa [List.take_length] at this
        have HR := Lib.hid (HYES.out (by rw [HOK3.out, hall]))
        clear hall
        have hfo := tw.fold_calls N wr (by omega)
        have hfs : tw.foldS N = bsl (foldL n) := by
          unfold tw.foldS
          rw [HD.out]
          rfl
        rw [hfs] at hfo
        have HFO := Lib.hid hfo
        clear hfo hfs
        go_wp2_with (first
          | (go_at_call 77; refine HFO.out.mono ?_; rintro e w5 ⟨rfl, hb5⟩; have HB5 := Lib.hid (lb.below_then HB3.out hb5); clear hb5)
          | fail)
        go_ret3
        exact ⟨by rw [HR.out]; rfl, HB5.out⟩
/-! The reference's. -/
theorem lab_let (p : List UInt8) : labelB p = (letB p [45, 95] && decide (p.length ≤ 63)) := by
  unfold labelB letB
  have : (fun c => alnum c || ([45, 95] : List UInt8).contains c) = labC := by
    funext c
    unfold labC
    simp only [List.contains, List.elem, Bool.or_assoc]
    cases h1 : c == 45 <;> cases h2 : c == 95 <;> simp
  rw [this]
theorem last_get (s : ByteArray) (h : 0 < s.size) : s.data.toList.getLast? = some (s.data.toList.getD (s.size - 1) 0) := by
  have hl : s.data.toList.length = s.size := rfl
  have : s.size - 1 < s.data.toList.length := by omega
  rw [List.getLast?_eq_getElem?, hl, List.getD_eq_getElem?_getD, List.getElem?_eq_getElem this]
  rfl
set_option maxRecDepth 100000 in
set_option maxHeartbeats 8000000 in
theorem rclean_calls (s : ByteArray) (W : World) (hs : s.size ≤ 1000000) :
    Calls Tryd.prog 39 #[.string s] W fun e w' => e = cleanE (cleanL s.data.toList) ∧ Below W.heap.size W w' := by
  have hrl := root_le s.data.toList
  have hlen : s.data.toList.length = s.size := rfl
  rw [hlen] at hrl
  obtain ⟨R, hR⟩ : ∃ R, cleanL s.data.toList = R := ⟨_, rfl⟩
  have hyes := clean_yes (l := s.data.toList)
  have hno := clean_no (l := s.data.toList)
  rw [hR] at hyes hno ⊢
  obtain ⟨n, hn⟩ : ∃ n, (root s.data.toList).1 = n := ⟨_, rfl⟩
  obtain ⟨rt, hrt⟩ : ∃ r, (root s.data.toList).2 = r := ⟨_, rfl⟩
  rw [hn] at hrl
  rw [hn, hrt] at hyes
  rw [hn] at hno
  obtain ⟨N, hN⟩ : ∃ N, bsl n = N := ⟨_, rfl⟩
  have hsz : N.size = n.length := by rw [← hN]; show n.toArray.size = _; simp
  have hdat : N.data.toList = n := by rw [← hN]
  have HRT : Hid (root s.data.toList = (n, rt)) := Lib.hid (by rw [← hn, ← hrt])
  have HN := Lib.hid hN
  have HSZ := Lib.hid hsz
  have HD := Lib.hid hdat
  have HYES := Lib.hid hyes
  have HNO := Lib.hid hno
  have hN9 : N.size ≤ 1000000 := by omega
  clear hsz hdat hyes hno hR hn hrt hrl hlen hN
  have hok : okN n = (!n.isEmpty && decide (n.length ≤ 253) && (spl 46 n).all labelB) := rfl
  have hie : n.isEmpty = decide (N.size = 0) := by rw [← HD.out, isEmpty_iff]
  rw [hie, ← HSZ.out] at hok
  have HOK := Lib.hid hok
  clear hok hie
  go_enter Tryd.func39, Tryd.ntmps39
  go_upto_region 1 with fail
  go_cut [5] (fun rv wx => rv = .bool rt ∧ wx = W)
  case first =>
    rcases (show s.size = 0 ∨ 0 < s.size by omega) with h0 | h0
    · have hrf : rt = false := by
        have h1 : s.data.toList = [] := List.eq_nil_of_length_eq_zero h0
        have := HRT.out
        rw [h1] at this
        exact (congrArg Prod.snd this).symm
      have HRF := Lib.hid hrf
      clear hrf
      go_wp2
      go_meet
      exact ⟨by first | (rw [HRF.out]; done) | (rw [HRF.out]; simp; omega), by trivial⟩
    · obtain ⟨x, hx⟩ : ∃ x, s.data.toList.getD (s.size - 1) 0 = x := ⟨_, rfl⟩
      have hlt : s.size - 1 < s.size := by omega
      have hat : s[s.size - 1] = x := by rw [at_data, hx]
      have hlast := last_get s h0
      rw [hx] at hlast
      have hrb : rt = (((x.toNat : Nat) : Int) == 46) := by
        have h2 : (root s.data.toList).2 = rt := congrArg Prod.snd HRT.out
        rw [← h2]
        unfold root
        rw [hlast]
        by_cases h46 : x = 46
        · subst h46; simp
        · rw [if_neg (by simpa using h46)]
          symm
          rw [beq_eq_false_iff_ne]
          intro h
          exact h46 (UInt8.toNat_inj.1 (by show x.toNat = 46; omega))
      have HRB := Lib.hid hrb
      clear hrb hx hlast
      have hcast : ((s.size : Int) - 1) = ((s.size - 1 : Nat) : Int) := by omega
      have HCAST := Lib.hid hcast
      clear hcast
      go_wp2
      go_meet
      exact ⟨by rw [HRB.out], by trivial⟩
  case rest =>
  obtain ⟨rfl, rfl⟩ := hcut
  go_upto_if 21 with fail
  go_cut [6] (fun nv wx => nv = .string N ∧ wx = wc)
  case first =>
    cases rt
    · have hns : N = s := by
        have h2 := HRT.out
        unfold root at h2
        split at h2
        · cases h2
        · have h3 : s.data.toList = n := congrArg Prod.fst h2
          rw [← HN.out, ← h3, bsl_back]
      have HNS := Lib.hid hns
      clear hns
      go_wp2
      go_meet
      exact ⟨by rw [HNS.out], by trivial⟩
    · have hpos : 0 < s.size := by
        rcases Nat.eq_zero_or_pos s.size with h0 | h0
        · exfalso
          have h1 : s.data.toList = [] := List.eq_nil_of_length_eq_zero h0
          have h2 := HRT.out
          rw [h1] at h2
          have := congrArg Prod.snd h2
          cases this
        · exact h0
      have hns : s.extract 0 (s.size - 1) = N := by
        have h2 := HRT.out
        unfold root at h2
        split at h2
        · have h3 : s.data.toList.dropLast = n := congrArg Prod.fst h2
          rw [← HN.out, ← h3, extract_seg, List.drop_zero, Nat.sub_zero, List.dropLast_eq_take]
          rfl
        · cases h2
      have HNS := Lib.hid hns
      clear hns
      go_wp2
      go_meet
      exact ⟨by rw [← HNS.out], by trivial⟩
  case rest =>
  obtain ⟨rfl, rfl⟩ := hcut
  rcases (show N.size = 0 ∨ 253 < N.size ∨ (0 < N.size ∧ N.size ≤ 253) by omega) with h0 | h0 | ⟨h0, h1⟩
  · have hbad : okN n = false := by rw [HOK.out, decide_eq_true h0]; rfl
    have HR := Lib.hid (HNO.out hbad)
    go_wp2_with fail
    go_ret3
    exact ⟨by rw [HR.out]; rfl, Below.refl _ _⟩
  · have hbad : okN n = false := by rw [HOK.out, decide_eq_false (show ¬ N.size ≤ 253 by omega)]; simp
    have HR := Lib.hid (HNO.out hbad)
    go_wp2_with fail
    go_ret3
    exact ⟨by rw [HR.out]; rfl, Below.refl _ _⟩
  · have hok2 : okN n = (spl 46 n).all labelB := by
      rw [HOK.out, decide_eq_false (show ¬ N.size = 0 by omega), decide_eq_true h1]
      simp
    have hsp := rsplit_calls N 46 wc (by omega)
    rw [HD.out] at hsp
    have hshort := spl_short 46 n
    have hql := spl_length 46 n
    have hqc : n.count 46 ≤ n.length := List.count_le_length
    obtain ⟨X, hX⟩ : ∃ X, spl 46 n = X := ⟨_, rfl⟩
    rw [hX] at hsp hok2 hshort hql
    have HOK3 := Lib.hid hok2
    have hsp2 : Calls Tryd.prog 79 #[.string N, .int .u8 46] wc fun e w' => ∃ v, e = .returned v ∧ w'.ownsRow wc.heap.size 9 1 v X.length (X.map sV) ∧ Below wc.heap.size wc w' := hsp
    have HSP := Lib.hid hsp2
    have HSH := Lib.hid hshort
    have hqx : X.length ≤ 254 := by have := HSZ.out; omega
    have hqp : 0 < X.length := by omega
    clear hok2 hsp hsp2 hshort hX hql hqc
    go_wp2_with (first
      | (go_at_call 79; refine HSP.out.mono ?_; rintro e w3 ⟨v, rfl, ho3, hb3⟩; obtain ⟨g, c, rfl⟩ := lb.row_addr ho3 hqp; have HO3 := Lib.hid ho3; have HB3 := Lib.hid hb3; clear ho3 hb3)
      | fail)
    have hcap : X.length ≤ c := by
      rcases HO3.out.2 with ⟨h1, _⟩ | ⟨g2, cap, cur, h1, _, _, h2, _⟩
      · cases h1
      · cases h1; exact h2
    go_loopw [8] (fun iv wr => ∃ k : Nat, k ≤ X.length ∧ iv = .int .i64 k ∧ (X.take k).all labelB = true ∧ wr = w3) (fun iv _ => X.length - (intOf iv).toNat)
    case atStart => exact ⟨0, Nat.zero_le _, rfl, rfl, rfl⟩
    case round =>
      obtain ⟨k, hk, rfl, hall, rfl⟩ := hrel
      have HALL := Lib.hid hall
      clear hall
      by_cases hlt : k < X.length
      · have hc := cell_piece HO3.out hlt
        have hp := HSH.out _ (List.getElem_mem hlt)
        have hnx := fun h => all_next (p := labelB) HALL.out hlt h
        have hst := fun h => all_stop (p := labelB) (X := X) hlt h
        obtain ⟨p, hpe⟩ : ∃ p, X[k] = p := ⟨_, rfl⟩
        rw [hpe] at hc hp hnx hst
        have HNX := Lib.hid hnx
        have HST := Lib.hid hst
        have hll := lab_let p
        have hlab := letters_calls (bsl p) ⟨#[45, 95]⟩ wr (by have := HSZ.out; show p.toArray.size ≤ _; simp; omega) (by show (2 : Nat) ≤ 10; omega)
        rw [show (bsl p).data.toList = p from rfl] at hlab
        have hlab2 : Calls Tryd.prog 80 #[.string (bsl p), .string ⟨#[45, 95]⟩] wr fun e w' => e = .returned (.bool (letB p [45, 95])) ∧ w' = wr := hlab
        obtain ⟨P, hP⟩ : ∃ P, bsl p = P := ⟨_, rfl⟩
        have hps : p.length = P.size := by rw [← hP]; show _ = p.toArray.size; simp
        rw [hP] at hc hlab2
        rw [hps] at hll
        have HLL := Lib.hid hll
        generalize hbl : letB p [45, 95] = bl at *
        have HLAB := Lib.hid hlab2
        clear hnx hst hpe hlab hlab2 hP hbl hp hll hps
        rcases (show 63 < P.size ∨ P.size ≤ 63 by omega) with hl | hl
        · have HR := Lib.hid (HNO.out (by rw [HOK3.out, HST.out (by rw [HLL.out, decide_eq_false (by omega), Bool.and_false])]))
          go_wp2_with fail
          go_ret3
          exact ⟨by rw [HR.out]; rfl, HB3.out⟩
        · have HLL2 : Hid (labelB p = bl) := Lib.hid (by rw [HLL.out, decide_eq_true hl, Bool.and_true])
          cases bl
          · have HR := Lib.hid (HNO.out (by rw [HOK3.out, HST.out HLL2.out]))
            go_wp2_with (first
              | (go_at_call 80; refine HLAB.out.mono ?_; rintro e w4 ⟨rfl, rfl⟩)
              | fail)
            go_ret3
            exact ⟨by rw [HR.out]; rfl, HB3.out⟩
          · go_wp2_with (first
              | (go_at_call 80; refine HLAB.out.mono ?_; rintro e w4 ⟨rfl, rfl⟩)
              | fail)
            exact ⟨⟨k + 1, by omega, by go_num, HNX.out HLL2.out, by trivial⟩, by simp [intOf]; omega⟩
      · obtain rfl : k = X.length := by omega
        have hall : X.all labelB = true := by
          have := HALL.out
          rwa [List.take_length] at this
        have HR := Lib.hid (HYES.out (by rw [HOK3.out, hall]))
        clear hall
        have hfo := tw.rfold_calls N wr (by omega)
        have hfs : tw.foldS N = bsl (foldL n) := by
          unfold tw.foldS
          rw [HD.out]
          rfl
        rw [hfs] at hfo
        have HFO := Lib.hid hfo
        clear hfo hfs
        go_wp2_with (first
          | (go_at_call 81; refine HFO.out.mono ?_; rintro e w5 ⟨rfl, hb5⟩; have HB5 := Lib.hid (lb.below_then HB3.out hb5); clear hb5)
          | fail)
        go_ret3
        exact ⟨by rw [HR.out]; rfl, HB5.out⟩
end Go.Proofs.YtkjjidmchepjcaaDoor.nm
