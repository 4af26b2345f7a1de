/- Scan: what journal.Scan and the reference tell of a file, for all bytes: the same records. -/
import Derived.Test.YtdbnfaeanngajaaProg
import Derived.WalkKit
import Derived.ProofKit
import Derived.Lib.Hide
import Derived.WalkLawsBesides
import Derived.WalkSpells
import Derived.Deep.RegionWith
import Derived.Deep.QuietTactic
import Derived.BigQuiet
import Derived.Test.YtdbnfaeanngajaaJC
namespace Go.Proofs.Ytdbnfaeanngajaa.jr
open Go Go.RowKit
set_option linter.unusedVariables false
set_option linter.unusedSimpArgs false
open lb (seg)
/-- Is there a whole record at a place, and how long is what it holds? -/
def recAt (l : List UInt8) (at_ : Nat) : Option Nat :=
  if l.length < at_ + 8 then none else
  let n := leN (seg l at_ 4)
  if 8192 < n ∨ l.length < at_ + 8 + n then none else
  if leN (seg l (at_ + 4) 4) = crcR (seg l (at_ + 8) n) then some n else none
def scanF : Nat → List UInt8 → Nat → List (List UInt8) × Nat
  | 0, _, at_ => ([], at_)
  | g + 1, l, at_ => match recAt l at_ with
    | none => ([], at_)
    | some n => ((seg l (at_ + 8) n) :: (scanF g l (at_ + 8 + n)).1, (scanF g l (at_ + 8 + n)).2)
theorem scanF_none (g : Nat) (l : List UInt8) (at_ : Nat) (h : recAt l at_ = none) : scanF g l at_ = ([], at_) := by
  cases g with
  | zero => rfl
  | succ g => rw [scanF, h]
theorem rec_room {l : List UInt8} {at_ n : Nat} (h : recAt l at_ = some n) : at_ + 8 + n ≤ l.length ∧ n ≤ 8192 := by
  unfold recAt at h
  split at h
  · cases h
  · simp only at h
    split at h
    · cases h
    · split at h
      · have : leN (seg l at_ 4) = n := by simpa using h
        omega
      · cases h
theorem scanF_some (g : Nat) (l : List UInt8) (at_ n : Nat) (h : recAt l at_ = some n) (hg : l.length ≤ g + at_) : ∃ g', l.length ≤ g' + (at_ + 8 + n) ∧ scanF g l at_ = (seg l (at_ + 8) n :: (scanF g' l (at_ + 8 + n)).1, (scanF g' l (at_ + 8 + n)).2) := by
  have := rec_room h
  cases g with
  | zero => omega
  | succ g => exact ⟨g, by omega, by rw [scanF, h]⟩
theorem rec_short {l : List UInt8} {at_ : Nat} (h : l.length < at_ + 8) : recAt l at_ = none := by unfold recAt; rw [if_pos h]
theorem rec_big {l : List UInt8} {at_ : Nat} (h0 : at_ + 8 ≤ l.length) (h : 8192 < leN (seg l at_ 4) ∨ l.length < at_ + 8 + leN (seg l at_ 4)) : recAt l at_ = none := by
  unfold recAt; rw [if_neg (by omega)]; simp only; rw [if_pos h]
theorem rec_bad {l : List UInt8} {at_ : Nat} (h0 : at_ + 8 ≤ l.length) (h1 : leN (seg l at_ 4) ≤ 8192) (h2 : at_ + 8 + leN (seg l at_ 4) ≤ l.length) (h : ¬ leN (seg l (at_ + 4) 4) = crcR (seg l (at_ + 8) (leN (seg l at_ 4)))) : recAt l at_ = none := by
  unfold recAt; rw [if_neg (by omega)]; simp only; rw [if_neg (by omega), if_neg h]
theorem rec_good {l : List UInt8} {at_ : Nat} (h0 : at_ + 8 ≤ l.length) (h1 : leN (seg l at_ 4) ≤ 8192) (h2 : at_ + 8 + leN (seg l at_ 4) ≤ l.length) (h : leN (seg l (at_ + 4) 4) = crcR (seg l (at_ + 8) (leN (seg l at_ 4)))) : recAt l at_ = some (leN (seg l at_ 4)) := by
  unfold recAt; rw [if_neg (by omega)]; simp only; rw [if_neg (by omega), if_pos h]
theorem seg_SB {W : World} {b o c : Nat} {l : List UInt8} (hc : ∀ j, j < l.length → W.cell? ⟨b, o + j, none⟩ = some (.int .u8 ((l.getD j 0).toNat : Int))) (hlc : l.length ≤ c) (hcm : c ≤ 9223372036854775807) (i n : Nat) (h : i + n ≤ l.length) : lb.SB W (some ⟨b, o + i, none⟩) (seg l i n) (c - i) :=
  ⟨by rw [lb.seg_len l i n h]; omega, by omega, (fun h => by cases h), .inr ⟨b, o + i, rfl, fun j hj => lb.seg_cells hc i n h j (by rwa [lb.seg_len l i n h] at hj)⟩⟩
theorem seg_zero (l : List UInt8) (i : Nat) : seg l i 0 = [] := by simp [seg]
/-- Rows of bytes in a row. -/
structure RV where
  v : Value
  bs : List UInt8
def RowsOwn (w : World) (B : Nat) (out : Value) (xs : List RV) : Prop := w.ownsRow B 22 1 out xs.length (xs.map RV.v) ∧ ∀ x ∈ xs, w.ownsRow B 5 1 x.v x.bs.length (lb.vB x.bs)
theorem RowsOwn.nil (w : World) (B : Nat) : RowsOwn w B (.slice none 0 0) [] := ⟨lb.own_nil _ _ _ _, fun x hx => by cases hx⟩
theorem RowsOwn.later {w w' : World} {B : Nat} {out : Value} {xs : List RV} (h : RowsOwn w B out xs) (hb : Below w.heap.size w w') : RowsOwn w' B out xs := ⟨lb.own_later h.1 hb, fun x hx => lb.own_later (h.2 x hx) hb⟩
theorem info_bs : (Try.prog.info? 22).map (fun i => (i.zero, i.size, i.bytes)) = some (some (.slice none 0 0), 1, 24) := by kernel_rfl
def ScanRel (W : World) (n : Nat) (l : List UInt8) (lv av : Value) (wr : World) : Prop := ∃ (at_ g : Nat) (xs : List RV), av = .int .i64 at_ ∧ at_ ≤ n ∧ xs.length ≤ at_ ∧ n ≤ g + at_ ∧ RowsOwn wr W.heap.size lv xs ∧ Below W.heap.size W wr ∧ scanF n l 0 = (xs.map RV.bs ++ (scanF g l at_).1, (scanF g l at_).2)
theorem srel {W : World} {n : Nat} {l : List UInt8} {lv av : Value} {wr : World} (at_ g : Nat) (xs : List RV) (h1 : av = .int .i64 at_) (h2 : at_ ≤ n) (h3 : xs.length ≤ at_) (h4 : n ≤ g + at_) (h5 : RowsOwn wr W.heap.size lv xs) (h6 : Below W.heap.size W wr) (h7 : scanF n l 0 = (xs.map RV.bs ++ (scanF g l at_).1, (scanF g l at_).2)) : ScanRel W n l lv av wr := ⟨at_, g, xs, h1, h2, h3, h4, h5, h6, h7⟩
def ScanPost (W : World) (l : List UInt8) (e : Ending) (w' : World) : Prop := ∃ lv xs, e = .returned (.tuple #[lv, .int .i64 ((scanF l.length l 0).2 : Int)]) ∧ RowsOwn w' W.heap.size lv xs ∧ xs.map RV.bs = (scanF l.length l 0).1 ∧ Below W.heap.size W w'
set_option maxRecDepth 100000 in
set_option maxHeartbeats 4000000 in
theorem scan_at (b o c n : Nat) (l : List UInt8) (W : World) (hl : l.length = n) (hc : ∀ j, j < l.length → W.cell? ⟨b, o + j, none⟩ = some (.int .u8 ((l.getD j 0).toNat : Int))) (hlc : n ≤ c) (hcm : c ≤ 9223372036854775807) (hn : n ≤ 1000000) (hbB : b < W.heap.size) :
    Calls Try.prog 45 #[.slice (some ⟨b, o, none⟩) n c] W (ScanPost W l) := by
  obtain ⟨i0, hi, hz0, hz1, hz2⟩ := info_parts info_u8
  obtain ⟨i1, hj, hy0, hy1, hy2⟩ := info_parts info_bs
  have HC := Lib.hid hc
  have HL := Lib.hid hl
  clear hc hl
  go_enter Try.func45, Try.ntmps45
  go_wp2
  go_loopw [4, 5] (fun lv av wr => ScanRel W n l lv av wr) (fun _ av _ => n + 1 - (intOf av).toNat)
  case atStart => exact srel 0 n [] rfl (by omega) (by simp) (by omega) (RowsOwn.nil _ _) (Below.refl _ _) (by simp)
  case round =>
    obtain ⟨at_, g, xs, rfl, hat, hxs, hg, hrow, hbel, hsc⟩ := hrel
    have HSC := Lib.hid hsc
    have HB := Lib.hid hbel
    have HR := Lib.hid hrow
    clear hsc hbel hrow
    have hclose : recAt l at_ = none → xs.map RV.bs = (scanF l.length l 0).1 ∧ at_ = (scanF l.length l 0).2 := fun h => by
      rw [HL.out, HSC.out, scanF_none g l at_ h]; simp
    by_cases h1 : n < at_ + 8
    · have HE := Lib.hid (hclose (rec_short (by rw [HL.out]; exact h1)))
      clear hclose
      go_wp2
      go_ret2
      exact ⟨_, xs, by rw [← HE.out.2]; rfl, HR.out, HE.out.1, HB.out⟩
    · have hcw : ∀ j, j < l.length → wr.cell? ⟨b, o + j, none⟩ = some (.int .u8 ((l.getD j 0).toNat : Int)) := fun j hj => (HB.out.cell (p := ⟨b, o + j, none⟩) hbB).trans (HC.out j hj)
      have HG1 := Lib.hid (get_n (some ⟨b, o + at_, none⟩) 4 (c - at_) (seg l at_ 4) wr (seg_SB hcw (by rw [HL.out]; exact hlc) hcm at_ 4 (by rw [HL.out]; omega)) (lb.seg_len _ _ _ (by rw [HL.out]; omega)) (by decide))
      have HG2 := Lib.hid (get_n (some ⟨b, o + (at_ + 4), none⟩) 4 (c - (at_ + 4)) (seg l (at_ + 4) 4) wr (seg_SB hcw (by rw [HL.out]; exact hlc) hcm (at_ + 4) 4 (by rw [HL.out]; omega)) (lb.seg_len _ _ _ (by rw [HL.out]; omega)) (by decide))
      have hm4 : leN (seg l at_ 4) < 4294967296 := by have := leN_lt (seg l at_ 4); rw [lb.seg_len _ _ _ (by rw [HL.out]; omega)] at this; simpa using this
      obtain ⟨m, hm⟩ : ∃ m, leN (seg l at_ 4) = m := ⟨_, rfl⟩
      have HM := Lib.hid hm
      rw [hm] at hm4 HG1
      clear hm
      rcases (show 8192 < m ∨ (m ≤ 8192 ∧ n < at_ + 8 + m) ∨ (m ≤ 8192 ∧ at_ + 8 + m ≤ n) by omega) with h2 | ⟨h2, h3⟩ | ⟨h2, h3⟩
      · have HE := Lib.hid (hclose (rec_big (by rw [HL.out]; omega) (by rw [HL.out, HM.out]; omega)))
        clear hclose hcw
        go_wp2_with (first
          | (go_at_call 70; refine HG1.out.mono ?_; rintro e w2 ⟨rfl, rfl⟩)
          | go_in)
        go_ret2
        exact ⟨_, xs, by rw [← HE.out.2]; rfl, HR.out, HE.out.1, HB.out⟩
      · have HE := Lib.hid (hclose (rec_big (by rw [HL.out]; omega) (by rw [HL.out, HM.out]; omega)))
        clear hclose hcw
        go_wp2_with (first
          | (go_at_call 70; refine HG1.out.mono ?_; rintro e w2 ⟨rfl, rfl⟩)
          | go_in)
        go_ret2
        exact ⟨_, xs, by rw [← HE.out.2]; rfl, HR.out, HE.out.1, HB.out⟩
      · obtain ⟨ad0, cp0, rfl⟩ := lb.own_shape HR.out.1
        have hp2 : leN (seg l (at_ + 4) 4) < 4294967296 := by have := leN_lt (seg l (at_ + 4) 4); rw [lb.seg_len _ _ _ (by rw [HL.out]; omega)] at this; simpa using this
        have hcr := crcR_lt (seg l (at_ + 8) m)
        obtain ⟨p2, hp⟩ : ∃ p2, leN (seg l (at_ + 4) 4) = p2 := ⟨_, rfl⟩
        obtain ⟨cr, hr⟩ : ∃ cr, crcR (seg l (at_ + 8) m) = cr := ⟨_, rfl⟩
        have hsl : (seg l (at_ + 8) m).length = m := lb.seg_len _ _ _ (by rw [HL.out]; omega)
        have HSL := Lib.hid hsl
        rw [hp] at hp2 HG2
        rw [hr] at hcr
        rcases (show (c ≤ at_ + 8 ∧ at_ + 8 ≤ c) ∨ at_ + 8 < c by omega) with ⟨hca1, hca2⟩ | hca
        · have hm0 : m = 0 := by omega
          subst hm0
          have hsb : lb.SB wr (some ⟨b, o, none⟩) (seg l (at_ + 8) 0) 0 := by
            rw [seg_zero]; exact ⟨Nat.zero_le _, by decide, (fun h => by cases h), .inl rfl⟩
          have HS1 := Lib.hid (sum_n (some ⟨b, o, none⟩) 0 0 (seg l (at_ + 8) 0) wr hsb hsl (by omega))
          rw [hr] at HS1
          have HSB := Lib.hid hsb
          clear hsl hsb
          by_cases he : p2 = cr
          · obtain ⟨g', hg', hsf⟩ := scanF_some g l at_ 0 (HM.out ▸ rec_good (by rw [HL.out]; omega) (by rw [HM.out]; omega) (by rw [HL.out, HM.out]; omega) (by rw [HM.out, hp, hr]; exact he)) (by rw [HL.out]; exact hg)
            have HSF := Lib.hid hsf
            rw [HL.out] at hg'
            subst he
            clear hp hr hsf hclose hcw
            go_wp2_with (first
              | (go_at_call 70; ((with_reducible refine HG1.out.mono ?_); rintro e w2 ⟨rfl, rfl⟩))
              | (go_at_call 70; ((with_reducible refine HG2.out.mono ?_); rintro e w2 ⟨rfl, rfl⟩))
              | (go_at_call 67; ((with_reducible refine HS1.out.mono ?_); rintro e w2 ⟨rfl, rfl⟩))
              | (at_builtin; refine lb.catB ?_ (.tmp 52) (.tmp 53) 22 ?_ 5 i0 Try.underlying22 hi hz0 hz1 hz2 wr _ (.slice (some ⟨wr.heap.size, 0, none⟩) 0 0) 0 [] (seg l (at_ + 8) 0) (some ⟨b, o, none⟩) 0 (0) ?_ ?_ ?_ ?_ ?_ ?_ ?_ ?_ ?_; rfl; rfl; rfl; rfl; exact lb.own_made wr 5 0 [] rfl (by decide); exact lb.below_alloc _ _; rfl; exact HSL.out; exact HSB.out.below (lb.below_alloc _ _); omega; intro v1 w1 ho1 hb1 hk1; rw [Nat.zero_add, List.nil_append] at ho1; obtain ⟨ad1, cp1, rfl⟩ := lb.own_shape ho1; have HO1 := Lib.hid ho1; have HB1 := Lib.hid hb1; have hrow1 := lb.own_later HR.out.1 hb1; have hbw1 := lb.below_then HB.out hb1; clear ho1 hb1 hk1)
              | (at_builtin; refine lb.app1 (by rfl) (.tmp 51) (.tmp 55) 74 (by rfl) 22 i1 (.slice none 0 0) 1 24 Try.underlying74 hj hy0 hy1 hy2 rfl (by decide) W w1 _ xs.length _ [.slice ad1 0 cp1] (by rfl) hrow1 hbw1 (by rfl) rfl (by intro u hu; simp at hu; subst hu; rfl) (by omega) (by omega) ?_; intro v2 w2 ho2 hb2 hk2; have HO2 := Lib.hid ho2; have HB2 := Lib.hid hb2; have HK2 := Lib.hid hk2; clear ho2 hb2 hk2 hrow1 hbw1)
              | go_in)
            go_roundw
            case rel =>
              refine srel (at_ + 8 + 0) g' (xs ++ [⟨.slice ad1 0 cp1, seg l (at_ + 8) 0⟩]) (by go_num) (by omega) (by simp; omega) (by omega) ⟨?_, fun x hx => ?_⟩ HB2.out ?_
              · exact own_cast HO2.out (by simp) (by simp)
              · rcases List.mem_append.1 hx with hx | hx
                · exact HK2.out.own (lb.own_later (HR.out.2 x hx) HB1.out) (by decide)
                · obtain rfl : x = ⟨.slice ad1 0 cp1, seg l (at_ + 8) 0⟩ := by simpa using hx
                  have := HK2.out.own (lb.own_base HO1.out HB.out.size) (by decide)
                  exact own_cast this rfl HSL.out.symm
              · rw [HSC.out, HSF.out]; simp
            case measure => simp [intOf]; omega
          · have hne : ((p2 : Int) != cr) = true := by simp; omega
            have HE := Lib.hid (hclose (rec_bad (by rw [HL.out]; omega) (by rw [HM.out]; omega) (by rw [HL.out, HM.out]; omega) (by rw [HM.out, hp, hr]; exact he)))
            clear hp hr hclose hcw
            go_wp2_with (first
              | (go_at_call 70; ((with_reducible refine HG1.out.mono ?_); rintro e w2 ⟨rfl, rfl⟩))
              | (go_at_call 70; ((with_reducible refine HG2.out.mono ?_); rintro e w2 ⟨rfl, rfl⟩))
              | (go_at_call 67; ((with_reducible refine HS1.out.mono ?_); rintro e w2 ⟨rfl, rfl⟩))
              | go_in)
            go_ret2
            exact ⟨_, xs, by rw [← HE.out.2]; rfl, HR.out, HE.out.1, HB.out⟩
        · have hsb : lb.SB wr (some ⟨b, o + (at_ + 8), none⟩) (seg l (at_ + 8) m) (c - (at_ + 8)) := seg_SB hcw (by rw [HL.out]; exact hlc) hcm (at_ + 8) m (by rw [HL.out]; omega)
          have HS1 := Lib.hid (sum_n (some ⟨b, o + (at_ + 8), none⟩) m (c - (at_ + 8)) (seg l (at_ + 8) m) wr hsb hsl (by omega))
          rw [hr] at HS1
          have HSB := Lib.hid hsb
          clear hsl hsb
          by_cases he : p2 = cr
          · obtain ⟨g', hg', hsf⟩ := scanF_some g l at_ m (HM.out ▸ rec_good (by rw [HL.out]; omega) (by rw [HM.out]; omega) (by rw [HL.out, HM.out]; omega) (by rw [HM.out, hp, hr]; exact he)) (by rw [HL.out]; exact hg)
            have HSF := Lib.hid hsf
            rw [HL.out] at hg'
            subst he
            clear hp hr hsf hclose hcw
            go_wp2_with (first
              | (go_at_call 70; ((with_reducible refine HG1.out.mono ?_); rintro e w2 ⟨rfl, rfl⟩))
              | (go_at_call 70; ((with_reducible refine HG2.out.mono ?_); rintro e w2 ⟨rfl, rfl⟩))
              | (go_at_call 67; ((with_reducible refine HS1.out.mono ?_); rintro e w2 ⟨rfl, rfl⟩))
              | (at_builtin; refine lb.catB ?_ (.tmp 52) (.tmp 53) 22 ?_ 5 i0 Try.underlying22 hi hz0 hz1 hz2 wr _ (.slice (some ⟨wr.heap.size, 0, none⟩) 0 0) 0 [] (seg l (at_ + 8) m) (some ⟨b, o + (at_ + 8), none⟩) m (c - (at_ + 8)) ?_ ?_ ?_ ?_ ?_ ?_ ?_ ?_ ?_; rfl; rfl; rfl; rfl; exact lb.own_made wr 5 0 [] rfl (by decide); exact lb.below_alloc _ _; rfl; exact HSL.out; exact HSB.out.below (lb.below_alloc _ _); omega; intro v1 w1 ho1 hb1 hk1; rw [Nat.zero_add, List.nil_append] at ho1; obtain ⟨ad1, cp1, rfl⟩ := lb.own_shape ho1; have HO1 := Lib.hid ho1; have HB1 := Lib.hid hb1; have hrow1 := lb.own_later HR.out.1 hb1; have hbw1 := lb.below_then HB.out hb1; clear ho1 hb1 hk1)
              | (at_builtin; refine lb.app1 (by rfl) (.tmp 51) (.tmp 55) 74 (by rfl) 22 i1 (.slice none 0 0) 1 24 Try.underlying74 hj hy0 hy1 hy2 rfl (by decide) W w1 _ xs.length _ [.slice ad1 m cp1] (by rfl) hrow1 hbw1 (by rfl) rfl (by intro u hu; simp at hu; subst hu; rfl) (by omega) (by omega) ?_; intro v2 w2 ho2 hb2 hk2; have HO2 := Lib.hid ho2; have HB2 := Lib.hid hb2; have HK2 := Lib.hid hk2; clear ho2 hb2 hk2 hrow1 hbw1)
              | go_in)
            go_roundw
            case rel =>
              refine srel (at_ + 8 + m) g' (xs ++ [⟨.slice ad1 m cp1, seg l (at_ + 8) m⟩]) (by go_num) (by omega) (by simp; omega) (by omega) ⟨?_, fun x hx => ?_⟩ HB2.out ?_
              · exact own_cast HO2.out (by simp) (by simp)
              · rcases List.mem_append.1 hx with hx | hx
                · exact HK2.out.own (lb.own_later (HR.out.2 x hx) HB1.out) (by decide)
                · obtain rfl : x = ⟨.slice ad1 m cp1, seg l (at_ + 8) m⟩ := by simpa using hx
                  have := HK2.out.own (lb.own_base HO1.out HB.out.size) (by decide)
                  exact own_cast this rfl HSL.out.symm
              · rw [HSC.out, HSF.out]; simp
            case measure => simp [intOf]; omega
          · have hne : ((p2 : Int) != cr) = true := by simp; omega
            have HE := Lib.hid (hclose (rec_bad (by rw [HL.out]; omega) (by rw [HM.out]; omega) (by rw [HL.out, HM.out]; omega) (by rw [HM.out, hp, hr]; exact he)))
            clear hp hr hclose hcw
            go_wp2_with (first
              | (go_at_call 70; ((with_reducible refine HG1.out.mono ?_); rintro e w2 ⟨rfl, rfl⟩))
              | (go_at_call 70; ((with_reducible refine HG2.out.mono ?_); rintro e w2 ⟨rfl, rfl⟩))
              | (go_at_call 67; ((with_reducible refine HS1.out.mono ?_); rintro e w2 ⟨rfl, rfl⟩))
              | go_in)
            go_ret2
            exact ⟨_, xs, by rw [← HE.out.2]; rfl, HR.out, HE.out.1, HB.out⟩
theorem scan_calls (ad : Option Addr) (n c : Nat) (l : List UInt8) (W : World) (h : lb.SB W ad l c) (hl : l.length = n) (hn : n ≤ 1000000) :
    Calls Try.prog 45 #[.slice ad n c] W (ScanPost W l) := by
  rcases h.at_ with h0 | ⟨b, o, rfl, hc⟩
  · subst h0
    obtain rfl : n = 0 := hl.symm
    clear h hn hl
    go_enter Try.func45, Try.ntmps45
    go_wp2
    refine wp_loop_rounds 1 ?_
    rw [rounds_succ]
    go_wp2
    go_ret2
    exact ⟨_, [], rfl, RowsOwn.nil _ _, rfl, Below.refl _ _⟩
  · rcases Nat.eq_zero_or_pos n with h0 | h0
    · subst h0
      obtain rfl : l = [] := List.eq_nil_of_length_eq_zero hl
      clear h hn hl hc
      go_enter Try.func45, Try.ntmps45
      go_wp2
      refine wp_loop_rounds 1 ?_
      rw [rounds_succ]
      go_wp2
      go_ret2
      exact ⟨_, [], rfl, RowsOwn.nil _ _, rfl, Below.refl _ _⟩
    · exact scan_at b o c n l W hl hc (by rw [← hl]; exact h.le) h.max hn (World.block_lt_of_cell? W _ (hc 0 (by omega)))
end Go.Proofs.Ytdbnfaeanngajaa.jr
