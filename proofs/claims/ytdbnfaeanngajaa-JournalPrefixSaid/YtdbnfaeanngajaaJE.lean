/- The reference's Scan: for all bytes what scanF tells. -/
import Derived.Test.YtdbnfaeanngajaaProg
import Derived.WalkKit
import Derived.ProofKit
import Derived.Lib.Hide
import Derived.WalkLawsBesides
import Derived.WalkSpells
import Derived.Deep.RegionWith
import Derived.Deep.QuietTactic
import Derived.BigQuiet
import Derived.IntWalk
import Derived.Test.YtdbnfaeanngajaaJD
namespace Go.Proofs.Ytdbnfaeanngajaa.jr
open Go Go.RowKit
set_option linter.unusedVariables false
set_option linter.unusedSimpArgs false
open lb (seg)
def RowsIn (W w : World) (B : Nat) (out : Value) (xs : List RV) : Prop := w.ownsRow B 22 1 out xs.length (xs.map RV.v) ∧ ∀ x ∈ xs, ∃ ad c, x.v = .slice ad x.bs.length c ∧ lb.SB W ad x.bs c
theorem seg4 (l : List UInt8) (i : Nat) (h : i + 4 ≤ l.length) : leN (seg l i 4) = (l.getD i 0).toNat + (l.getD (i + 1) 0).toNat * 256 + (l.getD (i + 2) 0).toNat * 65536 + (l.getD (i + 3) 0).toNat * 16777216 := by
  have e : seg l i 4 = [l.getD i 0, l.getD (i + 1) 0, l.getD (i + 2) 0, l.getD (i + 3) 0] := by
    unfold seg
    rw [lb.drop_get l i (by omega), lb.drop_get l (i + 1) (by omega), lb.drop_get l (i + 2) (by omega), lb.drop_get l (i + 3) (by omega)]
    rfl
  rw [e]
  simp only [leN]
  omega
def RScanRel (W : World) (n : Nat) (l : List UInt8) (lv av : Value) (wr : World) : Prop := ∃ (at_ g : Nat) (xs : List RV), av = .int .i64 at_ ∧ at_ ≤ n ∧ xs.length ≤ at_ ∧ n ≤ g + at_ ∧ RowsIn W wr W.heap.size lv xs ∧ Below W.heap.size W wr ∧ scanF n l 0 = (xs.map RV.bs ++ (scanF g l at_).1, (scanF g l at_).2)
theorem rsrel {W : World} {n : Nat} {l : List UInt8} {lv av : Value} {wr : World} (at_ g : Nat) (xs : List RV) (h1 : av = .int .i64 at_) (h2 : at_ ≤ n) (h3 : xs.length ≤ at_) (h4 : n ≤ g + at_) (h5 : RowsIn W wr W.heap.size lv xs) (h6 : Below W.heap.size W wr) (h7 : scanF n l 0 = (xs.map RV.bs ++ (scanF g l at_).1, (scanF g l at_).2)) : RScanRel W n l lv av wr := ⟨at_, g, xs, h1, h2, h3, h4, h5, h6, h7⟩
def RScanPost (W : World) (l : List UInt8) (e : Ending) (w' : World) : Prop := ∃ lv xs, e = .returned (.tuple #[lv, .int .i64 ((scanF l.length l 0).2 : Int)]) ∧ RowsIn W w' W.heap.size lv xs ∧ xs.map RV.bs = (scanF l.length l 0).1 ∧ Below W.heap.size W w'
theorem RowsIn.later {W w w' : World} {B : Nat} {out : Value} {xs : List RV} (h : RowsIn W w B out xs) (hb : Below w.heap.size w w') : RowsIn W w' B out xs := ⟨lb.own_later h.1 hb, h.2⟩
set_option maxRecDepth 100000 in
set_option maxHeartbeats 4000000 in
theorem rscan_at (b o c n : Nat) (l : List UInt8) (W : World) (hl : l.length = n) (hc : ∀ j, j < l.length → W.cell? ⟨b, o + j, none⟩ = some (.int .u8 ((l.getD j 0).toNat : Int))) (hlc : n ≤ c) (hcm : c ≤ 9223372036854775807) (hn : n ≤ 1000000) (hbB : b < W.heap.size) :
    Calls Try.prog 46 #[.slice (some ⟨b, o, none⟩) n c] W (RScanPost W l) := by
  obtain ⟨i1, hj, hy0, hy1, hy2⟩ := info_parts info_bs
  have HC := Lib.hid hc
  have HL := Lib.hid hl
  clear hc hl
  go_enter Try.func46, Try.ntmps46
  go_wp2
  go_loopw [4, 5] (fun lv av wr => RScanRel W n l lv av wr) (fun _ av _ => n + 1 - (intOf av).toNat)
  case atStart => exact rsrel 0 n [] rfl (by omega) (by simp) (by omega) ⟨lb.own_nil _ _ _ _, fun x hx => by cases hx⟩ (Below.refl _ _) (by simp)
  case round =>
    obtain ⟨at_, g, xs, rfl, hat, hxs, hg, hrow, hbel, hsc⟩ := hrel
    have HSC := Lib.hid hsc
    have HB := Lib.hid hbel
    have HR := Lib.hid hrow
    clear hsc hbel hrow
    have hclose : recAt l at_ = none → xs.map RV.bs = (scanF l.length l 0).1 ∧ at_ = (scanF l.length l 0).2 := fun h => by
      rw [HL.out, HSC.out, scanF_none g l at_ h]; simp
    by_cases h1 : n < at_ + 8
    · have HE := Lib.hid (hclose (rec_short (by rw [HL.out]; exact h1)))
      clear hclose
      go_wp2
      go_ret2
      exact ⟨_, xs, by rw [← HE.out.2]; rfl, HR.out, HE.out.1, HB.out⟩
    · have hcw : ∀ j, j < n → wr.cell? ⟨b, o + j, none⟩ = some (.int .u8 ((l.getD j 0).toNat : Int)) := fun j hj => (HB.out.cell (p := ⟨b, o + j, none⟩) hbB).trans (HC.out j (by rw [HL.out]; exact hj))
      have HCW := Lib.hid hcw
      have hs4 := seg4 l at_ (by rw [HL.out]; omega)
      have hs8 := seg4 l (at_ + 4) (by rw [HL.out]; omega)
      have e0 := hcw at_ (by omega)
      have e1 := hcw (at_ + 1) (by omega)
      have e2 := hcw (at_ + 2) (by omega)
      have e3 := hcw (at_ + 3) (by omega)
      have e4 := hcw (at_ + 4) (by omega)
      have e5 := hcw (at_ + 5) (by omega)
      have e6 := hcw (at_ + 6) (by omega)
      have e7 := hcw (at_ + 7) (by omega)
      obtain ⟨c0, h0⟩ : ∃ c0, (l.getD at_ 0).toNat = c0 := ⟨_, rfl⟩
      obtain ⟨c1, hh1⟩ : ∃ c0, (l.getD (at_ + 1) 0).toNat = c0 := ⟨_, rfl⟩
      obtain ⟨c2, hh2⟩ : ∃ c0, (l.getD (at_ + 2) 0).toNat = c0 := ⟨_, rfl⟩
      obtain ⟨c3, hh3⟩ : ∃ c0, (l.getD (at_ + 3) 0).toNat = c0 := ⟨_, rfl⟩
      obtain ⟨c4, hh4⟩ : ∃ c0, (l.getD (at_ + 4) 0).toNat = c0 := ⟨_, rfl⟩
      obtain ⟨c5, hh5⟩ : ∃ c0, (l.getD (at_ + 5) 0).toNat = c0 := ⟨_, rfl⟩
      obtain ⟨c6, hh6⟩ : ∃ c0, (l.getD (at_ + 6) 0).toNat = c0 := ⟨_, rfl⟩
      obtain ⟨c7, hh7⟩ : ∃ c0, (l.getD (at_ + 7) 0).toNat = c0 := ⟨_, rfl⟩
      have b0 : c0 < 256 := by rw [← h0]; exact UInt8.toNat_lt _
      have b1 : c1 < 256 := by rw [← hh1]; exact UInt8.toNat_lt _
      have b2 : c2 < 256 := by rw [← hh2]; exact UInt8.toNat_lt _
      have b3 : c3 < 256 := by rw [← hh3]; exact UInt8.toNat_lt _
      have b4 : c4 < 256 := by rw [← hh4]; exact UInt8.toNat_lt _
      have b5 : c5 < 256 := by rw [← hh5]; exact UInt8.toNat_lt _
      have b6 : c6 < 256 := by rw [← hh6]; exact UInt8.toNat_lt _
      have b7 : c7 < 256 := by rw [← hh7]; exact UInt8.toNat_lt _
      rw [h0, hh1, hh2, hh3] at hs4
      rw [show at_ + 4 + 1 = at_ + 5 by omega, show at_ + 4 + 2 = at_ + 6 by omega, show at_ + 4 + 3 = at_ + 7 by omega, hh4, hh5, hh6, hh7] at hs8
      rw [h0] at e0; rw [hh1] at e1; rw [hh2] at e2; rw [hh3] at e3; rw [hh4] at e4; rw [hh5] at e5; rw [hh6] at e6; rw [hh7] at e7
      have HS4 := Lib.hid hs4
      have HS8 := Lib.hid hs8
      clear hs4 hs8 h0 hh1 hh2 hh3 hh4 hh5 hh6 hh7 hcw
      go_wp2
      go_quiet (fail)
      go_wp2_with fail
      go_quiet (fail)
      clear e0 e1 e2 e3 e4 e5 e6 e7
      obtain ⟨m, hm⟩ : ∃ m : Nat, c0 + c1 * 256 + c2 * 65536 + c3 * 16777216 = m := ⟨_, rfl⟩
      obtain ⟨p2, hp⟩ : ∃ m : Nat, c4 + c5 * 256 + c6 * 65536 + c7 * 16777216 = m := ⟨_, rfl⟩
      have hmI : (c0 : Int) + c1 * 256 + c2 * 65536 + c3 * 16777216 = (m : Int) := by omega
      have hpI : (c4 : Int) + c5 * 256 + c6 * 65536 + c7 * 16777216 = (p2 : Int) := by omega
      rw [hm] at HS4
      rw [hp] at HS8
      have hm4 : m < 4294967296 := by omega
      have hp2 : p2 < 4294967296 := by omega
      simp only [hmI, hpI]
      clear hm hp hmI hpI b0 b1 b2 b3 b4 b5 b6 b7
      rcases (show 8192 < m ∨ (m ≤ 8192 ∧ n < at_ + 8 + m) ∨ (m ≤ 8192 ∧ at_ + 8 + m ≤ n) by omega) with h2 | ⟨h2, h3⟩ | ⟨h2, h3⟩
      · have HE := Lib.hid (hclose (rec_big (by rw [HL.out]; omega) (by rw [HL.out, HS4.out]; omega)))
        clear hclose
        go_wp2_with fail
        go_ret2
        exact ⟨_, xs, by rw [← HE.out.2]; rfl, HR.out.later (lb.below_drewN _ _), HE.out.1, lb.drewN_of HB.out _⟩
      · have HE := Lib.hid (hclose (rec_big (by rw [HL.out]; omega) (by rw [HL.out, HS4.out]; omega)))
        clear hclose
        go_wp2_with fail
        go_ret2
        exact ⟨_, xs, by rw [← HE.out.2]; rfl, HR.out.later (lb.below_drewN _ _), HE.out.1, lb.drewN_of HB.out _⟩
      · obtain ⟨ad0, cp0, rfl⟩ := lb.own_shape HR.out.1
        rcases (show (c ≤ at_ + 8 ∧ at_ + 8 ≤ c) ∨ at_ + 8 < c by omega) with ⟨hca1, hca2⟩ | hca
        · obtain rfl : m = 0 := by omega
          obtain rfl : c = at_ + 8 := by omega
          have hz0 : ((0 : Nat) : Int) = 0 := rfl
          simp only [hz0]
          clear hz0
          have hcr := crcR_lt (seg l (at_ + 8) 0)
          obtain ⟨cr, hr⟩ : ∃ cr, crcR (seg l (at_ + 8) 0) = cr := ⟨_, rfl⟩
          have hsl : (seg l (at_ + 8) 0).length = 0 := lb.seg_len _ _ _ (by rw [HL.out]; omega)
          have HSL := Lib.hid hsl
          rw [hr] at hcr
          have hsW : lb.SB W (some ⟨b, o, none⟩) (seg l (at_ + 8) 0) 0 := by
            rw [seg_zero]; exact ⟨Nat.zero_le _, by decide, (fun h => by cases h), .inl rfl⟩
          have HSW := Lib.hid hsW
          have HSB := Lib.hid (hsW.below HB.out)
          clear hsl hsW
          by_cases he : p2 = cr
          · obtain ⟨g', hg', hsf⟩ := scanF_some g l at_ (0) (HS4.out ▸ rec_good (by rw [HL.out]; omega) (by rw [HS4.out]; omega) (by rw [HL.out, HS4.out]; omega) (by rw [HS4.out, HS8.out, hr]; exact he)) (by rw [HL.out]; exact hg)
            have HSF := Lib.hid hsf
            rw [HL.out] at hg'
            have hq : ((cr : Int) != p2) = false := by simp; omega
            have hs1 := fun k => rsum_n (some ⟨b, o, none⟩) (0) (0) (seg l (at_ + 8) (0)) (wr.drewN k) (HSB.out.below (lb.below_drewN wr k)) HSL.out (by omega)
            rw [hr] at hs1
            have HS1 := Lib.hid hs1
            clear hs1
            clear hr hsf hclose he
            go_wp2_with (first
              | (go_at_call 69; ((with_reducible refine (HS1.out _).mono ?_); rintro e w2 ⟨rfl, rfl⟩))
              | (at_builtin; refine lb.app1 (by rfl) (.tmp 96) (.tmp 105) 74 (by rfl) 22 i1 (.slice none 0 0) 1 24 Try.underlying74 hj hy0 hy1 hy2 rfl (by decide) W (wr.drewN _) _ xs.length _ [.slice (some ⟨b, o, none⟩) (0) (0)] (by rfl) (lb.own_later HR.out.1 (lb.below_drewN _ _)) (lb.drewN_of HB.out _) (by rfl) rfl (by intro u hu; simp at hu; subst hu; rfl) (by omega) (by omega) ?_; intro v2 w2 ho2 hb2 hk2; have HO2 := Lib.hid ho2; have HB2 := Lib.hid hb2; clear ho2 hb2 hk2)
              | go_in)
            go_roundw
            case rel =>
              refine rsrel (at_ + 8 + (0)) g' (xs ++ [⟨.slice (some ⟨b, o, none⟩) (0) (0), seg l (at_ + 8) (0)⟩]) (by go_num) (by omega) (by simp; omega) (by omega) ⟨?_, fun x hx => ?_⟩ HB2.out ?_
              · exact own_cast HO2.out (by simp) (by simp)
              · rcases List.mem_append.1 hx with hx | hx
                · exact HR.out.2 x hx
                · obtain rfl : x = ⟨.slice (some ⟨b, o, none⟩) (0) (0), seg l (at_ + 8) (0)⟩ := by simpa using hx
                  exact ⟨_, _, by rw [HSL.out], HSW.out⟩
              · rw [HSC.out, HSF.out]; simp
            case measure => simp [intOf]; omega
          · have hq : ((cr : Int) != p2) = true := by simp; omega
            have HE := Lib.hid (hclose (rec_bad (by rw [HL.out]; omega) (by rw [HS4.out]; omega) (by rw [HL.out, HS4.out]; omega) (by rw [HS4.out, HS8.out, hr]; exact he)))
            have hs1 := fun k => rsum_n (some ⟨b, o, none⟩) (0) (0) (seg l (at_ + 8) (0)) (wr.drewN k) (HSB.out.below (lb.below_drewN wr k)) HSL.out (by omega)
            rw [hr] at hs1
            have HS1 := Lib.hid hs1
            clear hs1
            clear hr hclose he
            go_wp2_with (first
              | (go_at_call 69; ((with_reducible refine (HS1.out _).mono ?_); rintro e w2 ⟨rfl, rfl⟩))
              | go_in)
            go_ret2
            exact ⟨_, xs, by rw [← HE.out.2]; rfl, HR.out.later (lb.below_drewN _ _), HE.out.1, lb.drewN_of HB.out _⟩
        · have hcb : ¬ c = at_ + 8 := by omega
          have hcr := crcR_lt (seg l (at_ + 8) m)
          obtain ⟨cr, hr⟩ : ∃ cr, crcR (seg l (at_ + 8) m) = cr := ⟨_, rfl⟩
          have hsl : (seg l (at_ + 8) m).length = m := lb.seg_len _ _ _ (by rw [HL.out]; omega)
          have HSL := Lib.hid hsl
          rw [hr] at hcr
          have hsW : lb.SB W (some ⟨b, o + (at_ + 8), none⟩) (seg l (at_ + 8) m) (c - (at_ + 8)) := seg_SB HC.out (by rw [HL.out]; exact hlc) hcm (at_ + 8) m (by rw [HL.out]; omega)
          have HSW := Lib.hid hsW
          have HSB := Lib.hid (hsW.below HB.out)
          clear hsl hsW
          by_cases he : p2 = cr
          · obtain ⟨g', hg', hsf⟩ := scanF_some g l at_ (m) (HS4.out ▸ rec_good (by rw [HL.out]; omega) (by rw [HS4.out]; omega) (by rw [HL.out, HS4.out]; omega) (by rw [HS4.out, HS8.out, hr]; exact he)) (by rw [HL.out]; exact hg)
            have HSF := Lib.hid hsf
            rw [HL.out] at hg'
            have hq : ((cr : Int) != p2) = false := by simp; omega
            have hs1 := fun k => rsum_n (some ⟨b, o + (at_ + 8), none⟩) (m) (c - (at_ + 8)) (seg l (at_ + 8) (m)) (wr.drewN k) (HSB.out.below (lb.below_drewN wr k)) HSL.out (by omega)
            rw [hr] at hs1
            have HS1 := Lib.hid hs1
            clear hs1
            clear hr hsf hclose he
            go_wp2_with (first
              | (go_at_call 69; ((with_reducible refine (HS1.out _).mono ?_); rintro e w2 ⟨rfl, rfl⟩))
              | (at_builtin; refine lb.app1 (by rfl) (.tmp 96) (.tmp 105) 74 (by rfl) 22 i1 (.slice none 0 0) 1 24 Try.underlying74 hj hy0 hy1 hy2 rfl (by decide) W (wr.drewN _) _ xs.length _ [.slice (some ⟨b, o + (at_ + 8), none⟩) (m) (c - (at_ + 8))] (by rfl) (lb.own_later HR.out.1 (lb.below_drewN _ _)) (lb.drewN_of HB.out _) (by rfl) rfl (by intro u hu; simp at hu; subst hu; rfl) (by omega) (by omega) ?_; intro v2 w2 ho2 hb2 hk2; have HO2 := Lib.hid ho2; have HB2 := Lib.hid hb2; clear ho2 hb2 hk2)
              | go_in)
            go_roundw
            case rel =>
              refine rsrel (at_ + 8 + (m)) g' (xs ++ [⟨.slice (some ⟨b, o + (at_ + 8), none⟩) (m) (c - (at_ + 8)), seg l (at_ + 8) (m)⟩]) (by go_num) (by omega) (by simp; omega) (by omega) ⟨?_, fun x hx => ?_⟩ HB2.out ?_
              · exact own_cast HO2.out (by simp) (by simp)
              · rcases List.mem_append.1 hx with hx | hx
                · exact HR.out.2 x hx
                · obtain rfl : x = ⟨.slice (some ⟨b, o + (at_ + 8), none⟩) (m) (c - (at_ + 8)), seg l (at_ + 8) (m)⟩ := by simpa using hx
                  exact ⟨_, _, by rw [HSL.out], HSW.out⟩
              · rw [HSC.out, HSF.out]; simp
            case measure => simp [intOf]; omega
          · have hq : ((cr : Int) != p2) = true := by simp; omega
            have HE := Lib.hid (hclose (rec_bad (by rw [HL.out]; omega) (by rw [HS4.out]; omega) (by rw [HL.out, HS4.out]; omega) (by rw [HS4.out, HS8.out, hr]; exact he)))
            have hs1 := fun k => rsum_n (some ⟨b, o + (at_ + 8), none⟩) (m) (c - (at_ + 8)) (seg l (at_ + 8) (m)) (wr.drewN k) (HSB.out.below (lb.below_drewN wr k)) HSL.out (by omega)
            rw [hr] at hs1
            have HS1 := Lib.hid hs1
            clear hs1
            clear hr hclose he
            go_wp2_with (first
              | (go_at_call 69; ((with_reducible refine (HS1.out _).mono ?_); rintro e w2 ⟨rfl, rfl⟩))
              | go_in)
            go_ret2
            exact ⟨_, xs, by rw [← HE.out.2]; rfl, HR.out.later (lb.below_drewN _ _), HE.out.1, lb.drewN_of HB.out _⟩
theorem rscan_calls (ad : Option Addr) (n c : Nat) (l : List UInt8) (W : World) (h : lb.SB W ad l c) (hl : l.length = n) (hn : n ≤ 1000000) :
    Calls Try.prog 46 #[.slice ad n c] W (RScanPost W l) := by
  have h00 : n = 0 → Calls Try.prog 46 #[.slice ad n c] W (RScanPost W l) := by
    intro h0
    subst h0
    obtain rfl : l = [] := List.eq_nil_of_length_eq_zero hl
    clear h hn hl
    go_enter Try.func46, Try.ntmps46
    go_wp2
    refine wp_loop_rounds 1 ?_
    rw [rounds_succ]
    go_wp2
    go_ret2
    exact ⟨_, [], rfl, ⟨lb.own_nil _ _ _ _, fun x hx => by cases hx⟩, rfl, Below.refl _ _⟩
  rcases Nat.eq_zero_or_pos n with h0 | h0
  · exact h00 h0
  · rcases h.at_ with h1 | ⟨b, o, rfl, hc⟩
    · subst h1; simp at hl; omega
    · exact rscan_at b o c n l W hl hc (by rw [← hl]; exact h.le) h.max hn (World.block_lt_of_cell? W _ (hc 0 (by omega)))
end Go.Proofs.Ytdbnfaeanngajaa.jr
