/- The reference's letters and Split: what they make of a text. -/
import Derived.Test.YtkjjidmchepjcaaDoorProg
import Derived.WalkKit
import Derived.ProofKit
import Derived.Lib.Hide
import Derived.WalkLawsBesides
import Derived.WalkSpells
import Derived.Deep.RegionWith
import Derived.Deep.QuietTactic
import Derived.BigQuiet
import Derived.Deep.DeepCutAuto
import Derived.Deep.CutBlock
import Derived.Test.YtkjjidmchepjcaaDoorNC
import Derived.Test.YtkjjidmchepjcaaDoorLB
namespace Go.Proofs.YtkjjidmchepjcaaDoor.nm
open Go Go.RowKit
set_option linter.unusedVariables false
set_option linter.unusedSimpArgs false
/-- letters, of whatever more. -/
def letB (l more : List UInt8) : Bool := l.all (fun c => alnum c || more.contains c) && !l.isEmpty
theorem contains_next (m : List UInt8) (k : Nat) (c : UInt8) (h : k < m.length) : (m.take (k + 1)).contains c = ((m.take k).contains c || (c == m.getD k 0)) := by
  have : m.getD k 0 = m[k] := by simp [List.getD, h]
  rw [this, List.take_succ_eq_append_getElem h, Bool.eq_iff_iff]
  simp only [List.contains_iff_mem, List.mem_append, Bool.or_eq_true, List.mem_singleton, beq_iff_eq]
theorem alnum_cases (c : UInt8) : (c.toNat < 48 ∧ alnum c = false) ∨ (48 ≤ c.toNat ∧ c.toNat ≤ 57 ∧ alnum c = true) ∨ (57 < c.toNat ∧ c.toNat < 65 ∧ alnum c = false) ∨ (65 ≤ c.toNat ∧ c.toNat ≤ 90 ∧ alnum c = true) ∨ (90 < c.toNat ∧ c.toNat < 97 ∧ alnum c = false) ∨ (97 ≤ c.toNat ∧ c.toNat ≤ 122 ∧ alnum c = true) ∨ (122 < c.toNat ∧ alnum c = false) := by
  have h : alnum c = (decide (97 ≤ c.toNat ∧ c.toNat ≤ 122) || decide (65 ≤ c.toNat ∧ c.toNat ≤ 90) || decide (48 ≤ c.toNat ∧ c.toNat ≤ 57)) := rfl
  rw [h]
  simp only [Bool.or_eq_false_iff, Bool.or_eq_true, decide_eq_false_iff_not, decide_eq_true_eq]
  omega
set_option maxRecDepth 100000 in
set_option maxHeartbeats 8000000 in
theorem letters_calls (s more : ByteArray) (W : World) (hb : s.size ≤ 9223372036854775807) (hm : more.size ≤ 10) :
    Calls Tryd.prog 80 #[.string s, .string more] W fun e w' => e = .returned (.bool (letB s.data.toList more.data.toList)) ∧ w' = W := by
  obtain ⟨r, hr⟩ : ∃ r, letB s.data.toList more.data.toList = r := ⟨_, rfl⟩
  rw [hr]
  have hlen : s.data.toList.length = s.size := rfl
  have hmen : more.data.toList.length = more.size := rfl
  have HR := Lib.hid hr
  have HLEN := Lib.hid hlen
  have HMEN := Lib.hid hmen
  clear hr hlen hmen
  go_enter Tryd.func80, Tryd.ntmps80
  go_wp2
  go_loopw [5] (fun i wr => ∃ k : Nat, k ≤ s.size ∧ i = .int .i64 k ∧ (s.data.toList.take k).all (fun c => alnum c || more.data.toList.contains c) = true ∧ wr = W) (fun i _ => s.size - (intOf i).toNat)
  case atStart => exact ⟨0, Nat.zero_le _, rfl, rfl, rfl⟩
  case round =>
    obtain ⟨k, hk, rfl, hall, rfl⟩ := hrel
    have HALL := Lib.hid hall
    clear hall
    by_cases hlt : k < s.size
    · obtain ⟨c, hc⟩ : ∃ c, s.data.toList.getD k 0 = c := ⟨_, rfl⟩
      have hat : s[k] = c := by rw [at_data, hc]
      have hc255 : c.toNat < 256 := c.toNat_lt
      have HC := Lib.hid hc
      clear hc
      go_upto_region 5 with fail
      go_cut [7] (fun ov wx => ov = .bool (alnum c) ∧ wx = wr)
      case first =>
        obtain ⟨h1, ha⟩ | ⟨h1, h2, ha⟩ | ⟨h1, h2, ha⟩ | ⟨h1, h2, ha⟩ | ⟨h1, h2, ha⟩ | ⟨h1, h2, ha⟩ | ⟨h1, ha⟩ := alnum_cases c
        all_goals
          have HA := Lib.hid ha
          clear ha
          go_wp2
          go_meet
          exact ⟨by first | (rw [HA.out]; done) | (rw [HA.out]; simp; omega), by trivial⟩
      case rest =>
      obtain ⟨rfl, rfl⟩ := hcut
      go_upto_block 2 with fail
      go_cut [7] (fun ov wx => ov = .bool (alnum c || more.data.toList.contains c) ∧ wx = wc)
      case first =>
        go_wp2_with fail
        go_loopw [7, 8] (fun ov jv wq => ∃ j : Nat, j ≤ more.size ∧ jv = .int .i64 j ∧ ov = .bool (alnum c || (more.data.toList.take j).contains c) ∧ wq = wc) (fun _ jv _ => more.size - (intOf jv).toNat)
        case atStart => exact ⟨0, Nat.zero_le _, rfl, by simp, rfl⟩
        case round =>
          obtain ⟨j, hj, rfl, rfl, rfl⟩ := hrel
          by_cases hjl : j < more.size
          · have hjm : j < more.data.toList.length := by rw [HMEN.out]; exact hjl
            have hnx := contains_next more.data.toList j c hjm
            obtain ⟨x, hx⟩ : ∃ x, more.data.toList.getD j 0 = x := ⟨_, rfl⟩
            have hat2 : more[j] = x := by rw [at_data, hx]
            rw [hx] at hnx
            clear hx
            cases hb0 : (alnum c || (more.data.toList.take j).contains c)
            · have hq : (((c.toNat : Nat) : Int) == ((x.toNat : Nat) : Int)) = (c == x) := by
                rw [Bool.eq_iff_iff]
                simp only [beq_iff_eq]
                constructor
                · intro h; exact UInt8.toNat_inj.1 (by omega)
                · intro h; rw [h]
              have HQ : Hid ((alnum c || (more.data.toList.take (j + 1)).contains c) = (c == x)) := Lib.hid (by
                rw [hnx, ← Bool.or_assoc, hb0, Bool.false_or])
              clear hnx hb0
              go_wp2
              refine ⟨⟨j + 1, by omega, by go_num, ?_, by trivial⟩, by simp [intOf]; omega⟩
              rw [HQ.out]
            · have HQ : Hid ((alnum c || (more.data.toList.take (j + 1)).contains c) = true) := Lib.hid (by
                rw [hnx, ← Bool.or_assoc, hb0, Bool.true_or])
              clear hnx hb0
              go_wp2
              refine ⟨⟨j + 1, by omega, by go_num, ?_, by trivial⟩, by simp [intOf]; omega⟩
              rw [HQ.out]
          · obtain rfl : j = more.size := by omega
            have hfull : more.data.toList.take more.size = more.data.toList := List.take_of_length_le (by rw [HMEN.out]; exact Nat.le_refl _)
            have HFULL := Lib.hid hfull
            clear hfull
            go_wp2
            go_meet
            exact ⟨by rw [HFULL.out], by trivial⟩
      case rest =>
      obtain ⟨rfl, rfl⟩ := hcut
      have hnext := fun h => take_all (k := k) HALL.out (by rw [HLEN.out]; exact hlt) h
      have hno := fun h => all_no (p := fun c => alnum c || more.data.toList.contains c) (l := s.data.toList) (k := k) (by rw [HLEN.out]; exact hlt) h
      rw [HC.out] at hnext hno
      have HNX := Lib.hid hnext
      have HNO := Lib.hid hno
      clear hnext hno
      generalize (alnum c || more.data.toList.contains c) = b at *
      cases b
      · have hrf : r = false := by
          rw [← HR.out]
          unfold letB
          rw [HNO.out rfl]
          rfl
        subst hrf
        go_wp2
        go_ret
        exact ⟨rfl, by trivial⟩
      · go_wp2
        exact ⟨⟨k + 1, by omega, by go_num, HNX.out rfl, by trivial⟩, by simp [intOf]; omega⟩
    · obtain rfl : k = s.size := by omega
      have hall : s.data.toList.all (fun c => alnum c || more.data.toList.contains c) = true := by
        have := HALL.out
        rwa [List.take_of_length_le (by rw [HLEN.out]; exact Nat.le_refl _)] at this
      have hr2 : r = !s.data.toList.isEmpty := by
        rw [← HR.out]
        unfold letB
        rw [hall]
        rfl
      have HR2 := Lib.hid hr2
      clear hr2 hall
      rcases (show s.size = 0 ∨ 0 < s.size by omega) with h0 | h0
      · have e1 := empty_yes s h0
        have HF : Hid (r = false) := Lib.hid (by rw [HR2.out, isEmpty_iff, decide_eq_true h0]; rfl)
        go_wp2
        go_ret
        exact ⟨by rw [HF.out]; rfl, by trivial⟩
      · have e1 := empty_no s (by omega)
        have HF : Hid (r = true) := Lib.hid (by rw [HR2.out, isEmpty_iff, decide_eq_false (by omega)]; rfl)
        go_wp2
        go_ret
        exact ⟨by rw [HF.out]; rfl, by trivial⟩
/-! Pieces. -/
theorem extract_seg (s : ByteArray) (f i : Nat) : s.extract f i = bsl ((s.data.toList.drop f).take (i - f)) := by
  obtain ⟨⟨l⟩⟩ := s
  apply ByteArray.ext
  simp only [ByteArray.data_extract]
  apply Array.ext'
  simp [List.drop_take]
theorem seg_next (l : List UInt8) (f i : Nat) (hf : f ≤ i) (hi : i < l.length) : (l.drop f).take (i + 1 - f) = (l.drop f).take (i - f) ++ [l.getD i 0] := by
  have e : i + 1 - f = (i - f) + 1 := by omega
  have hlt : i - f < (l.drop f).length := by simp; omega
  rw [e, List.take_succ_eq_append_getElem hlt]
  have : (l.drop f)[i - f] = l.getD i 0 := by
    simp [List.getD, hi, show f + (i - f) = i by omega]
  rw [this]
theorem drop_at (s : ByteArray) (i : Nat) (h : i < s.size) : s.data.toList.drop i = s.data.toList.getD i 0 :: s.data.toList.drop (i + 1) := by
  obtain ⟨⟨l⟩⟩ := s
  have hl : i < l.length := h
  simp only [List.getD, List.getElem?_eq_getElem hl, Option.getD_some]
  exact List.drop_eq_getElem_cons hl
set_option maxRecDepth 100000 in
theorem info_str : (Tryd.prog.info? 9).map (fun i => (i.zero, i.size, i.bytes)) = some (some (.string ⟨#[]⟩), 1, 16) := by kernel_rfl
def SplRel (c : UInt8) (l : List UInt8) (f i : Nat) (acc : List (List UInt8)) : Prop :=
  (i ≤ l.length ∧ spl c l = acc ++ splFrom c ((l.drop f).take (i - f)) (l.drop i)) ∨ (i = l.length + 1 ∧ spl c l = acc)
set_option maxRecDepth 100000 in
set_option maxHeartbeats 8000000 in
theorem rsplit_calls (s : ByteArray) (c : UInt8) (W : World) (hs : s.size ≤ 1000000) :
    Calls Tryd.prog 79 #[.string s, .int .u8 (c.toNat : Int)] W fun e w' => ∃ v, e = .returned v ∧ w'.ownsRow W.heap.size 9 1 v (spl c s.data.toList).length ((spl c s.data.toList).map sV) ∧ Below W.heap.size W w' := by
  obtain ⟨i1, hj1, hy0, hy1, hy2⟩ := info_parts info_str
  have hlen : s.data.toList.length = s.size := rfl
  have HLEN := Lib.hid hlen
  clear hlen
  have hc255 : c.toNat < 256 := c.toNat_lt
  go_enter Tryd.func79, Tryd.ntmps79
  go_wp2
  go_loopw [5, 6, 7] (fun lv fv iv wr => ∃ (i f : Nat) (acc : List (List UInt8)), i ≤ s.size + 1 ∧ f ≤ i ∧ acc.length ≤ i ∧ iv = .int .i64 i ∧ fv = .int .i64 f ∧ SplRel c s.data.toList f i acc ∧ wr.ownsRow W.heap.size 9 1 lv acc.length (acc.map sV) ∧ Below W.heap.size W wr) (fun _ _ iv _ => s.size + 1 - (intOf iv).toNat)
  case atStart => exact ⟨0, 0, [], Nat.zero_le _, Nat.le_refl _, Nat.le_refl _, rfl, rfl, .inl ⟨Nat.zero_le _, by simp [splFrom_nil]⟩, lb.own_nil _ _ _ _, Below.refl _ _⟩
  case round =>
    obtain ⟨i, f, acc, hi, hf, hacc, rfl, rfl, hrelS, ho, hb⟩ := hrel
    obtain ⟨al, cl, rfl⟩ := lb.own_shape ho
    have HO := Lib.hid ho
    have HB := Lib.hid hb
    have HS := Lib.hid hrelS
    clear ho hb hrelS
    rcases (show i < s.size ∨ i = s.size ∨ i = s.size + 1 by omega) with hlt | heq | heq
    · obtain ⟨x, hx⟩ : ∃ x, s.data.toList.getD i 0 = x := ⟨_, rfl⟩
      have hat : s[i] = x := by rw [at_data, hx]
      have HX := Lib.hid hx
      have hx255 : x.toNat < 256 := x.toNat_lt
      clear hx
      have hrl : Hid (spl c s.data.toList = acc ++ splFrom c ((s.data.toList.drop f).take (i - f)) (x :: s.data.toList.drop (i + 1))) := by
        rcases HS.out with ⟨_, h⟩ | ⟨h, _⟩
        · rw [drop_at s i hlt, HX.out] at h
          exact Lib.hid h
        · rw [HLEN.out] at h; omega
      by_cases hxc : x = c
      · subst hxc
        have hq : (((x.toNat : Nat) : Int) == ((x.toNat : Nat) : Int)) = true := by simp
        have HSG := Lib.hid (extract_seg s f i)
        go_wp2_with (first
          | (at_builtin; refine lb.app1 rfl (.tmp 25) (.tmp 30) 33 rfl 9 i1 (.string ⟨#[]⟩) 1 16 Tryd.underlying33 hj1 hy0 hy1 hy2 rfl (by decide) W _ (.slice al acc.length cl) acc.length (acc.map sV) [.string (s.extract f i)] rfl HO.out HB.out rfl rfl (by intro u hu; simp at hu; subst hu; rfl) (by omega) (by omega) ?_; intro v4 w4 ho4 hb4 hk4; have HO4 := Lib.hid ho4; have HB4 := Lib.hid hb4; clear ho4 hb4 hk4)
          | fail)
        refine ⟨⟨i + 1, i + 1, acc ++ [(s.data.toList.drop f).take (i - f)], by omega, Nat.le_refl _, by simp; omega, by go_num, by go_num, ?_, ?_, HB4.out⟩, by simp [intOf]; omega⟩
        · refine .inl ⟨by rw [HLEN.out]; omega, ?_⟩
          rw [hrl.out]
          simp [splFrom]
        · have := HO4.out
          rw [HSG.out] at this
          simpa using this
      · have hq : (((x.toNat : Nat) : Int) == ((c.toNat : Nat) : Int)) = false := by
          rw [beq_eq_false_iff_ne]
          intro h
          exact hxc (UInt8.toNat_inj.1 (by omega))
        go_wp2_with fail
        refine ⟨⟨i + 1, f, acc, by omega, by omega, by omega, by go_num, rfl, ?_, HO.out, HB.out⟩, by simp [intOf]; omega⟩
        refine .inl ⟨by rw [HLEN.out]; omega, ?_⟩
        rw [hrl.out, seg_next _ _ _ hf (by rw [HLEN.out]; exact hlt), HX.out, splFrom, if_neg (by simpa using hxc)]
    · subst heq
      have hrl : Hid (spl c s.data.toList = acc ++ [(s.data.toList.drop f).take (s.size - f)]) := by
        rcases HS.out with ⟨_, h⟩ | ⟨h, _⟩
        · have hd : s.data.toList.drop s.size = [] := List.drop_eq_nil_of_le (by rw [HLEN.out]; exact Nat.le_refl _)
          rw [hd] at h
          exact Lib.hid h
        · rw [HLEN.out] at h; omega
      have HSG := Lib.hid (extract_seg s f s.size)
      go_wp2_with (first
        | (at_builtin; refine lb.app1 rfl (.tmp 25) (.tmp 30) 33 rfl 9 i1 (.string ⟨#[]⟩) 1 16 Tryd.underlying33 hj1 hy0 hy1 hy2 rfl (by decide) W _ (.slice al acc.length cl) acc.length (acc.map sV) [.string (s.extract f s.size)] rfl HO.out HB.out rfl rfl (by intro u hu; simp at hu; subst hu; rfl) (by omega) (by omega) ?_; intro v4 w4 ho4 hb4 hk4; have HO4 := Lib.hid ho4; have HB4 := Lib.hid hb4; clear ho4 hb4 hk4)
        | fail)
      refine ⟨⟨s.size + 1, s.size + 1, acc ++ [(s.data.toList.drop f).take (s.size - f)], by omega, Nat.le_refl _, by simp; omega, by go_num, by go_num, .inr ⟨by rw [HLEN.out], hrl.out⟩, ?_, HB4.out⟩, by simp [intOf]⟩
      have := HO4.out
      rw [HSG.out] at this
      simpa using this
    · subst heq
      have hfin : Hid (spl c s.data.toList = acc) := by
        rcases HS.out with ⟨h, _⟩ | ⟨_, h⟩
        · rw [HLEN.out] at h; omega
        · exact Lib.hid h
      go_wp2_with fail
      go_ret
      exact ⟨_, rfl, by rw [hfin.out]; exact HO.out, HB.out⟩
end Go.Proofs.YtkjjidmchepjcaaDoor.nm
