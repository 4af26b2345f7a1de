/- The walk of the law JournalPrefix. -/
import Derived.Test.YtdbnfaeanngajaaProg
import Derived.WalkKit
import Derived.ProofKit
import Derived.Lib.Hide
import Derived.WalkLawsBesides
import Derived.WalkSpells
import Derived.Deep.RegionWith
import Derived.Deep.QuietTactic
import Derived.BigQuiet
import Derived.Deep.DeepCutAuto
import Derived.Deep.CutBlock
import Derived.Test.YtdbnfaeanngajaaJG
import Derived.Test.YtdbnfaeanngajaaJF
namespace Go.Proofs.Ytdbnfaeanngajaa.jr
open Go Go.RowKit Go.ChangeShapes Go.WideShapes
set_option linter.unusedVariables false
set_option linter.unusedSimpArgs false
theorem short_same (ad : Option Addr) (n c m : Nat) (W : World) (hn : n ≤ 9223372036854775807) (hm : m ≤ 9223372036854775807) (hcap : n ≤ c) :
    Calls Try.prog 13 #[.slice ad n c, .int .i64 (m : Int)] W fun e w' => e = .returned (.slice ad (min n m) c) ∧ w' = W := (short_calls ad n c m W hn hm hcap).mono fun _ _ h => ⟨h.1, h.2.symm⟩
theorem info_int : (Try.prog.info? 3).map (fun i => (i.zero, i.size, i.bytes)) = some (some (.int .i64 0), 1, 8) := by kernel_rfl
def vI (l : List Nat) : List Value := l.map fun (n : Nat) => Value.int .i64 (Int.ofNat n)
def tot (ps : List (List UInt8)) : Nat := (joinF ps).length
def endsL (ps : List (List UInt8)) : List Nat := (List.range ps.length).map fun j => tot (ps.take (j + 1))
theorem endsL_len (ps : List (List UInt8)) : (endsL ps).length = ps.length := by simp [endsL]
theorem endsL_snoc (ps : List (List UInt8)) (p : List UInt8) : vI (endsL ps) ++ [.int .i64 (tot (ps ++ [p]) : Int)] = vI (endsL (ps ++ [p])) := by
  simp only [endsL, vI, List.length_append, List.length_cons, List.length_nil, List.range_succ, List.map_append, List.map_cons, List.map_nil, List.map_map]
  congr 1
  · apply List.map_congr_left
    intro j hj
    have := List.mem_range.1 hj
    simp only [Function.comp]
    rw [List.take_append_of_le_length (by omega)]
  · simp [List.take_of_length_le]
theorem tot_snoc (ps : List (List UInt8)) (p : List UInt8) (hp : p.length ≤ 8192) : tot (ps ++ [p]) = tot ps + 8 + p.length := by
  unfold tot
  rw [joinF_app, List.length_append]
  simp only [joinF, List.append_nil, frame_len hp]
  omega
theorem wholeN_snoc (c : Nat) : ∀ (ps : List (List UInt8)) (at_ : Nat) (p : List UInt8), (∀ q ∈ ps, q.length ≤ 8192) → p.length ≤ 8192 → wholeN c at_ (ps ++ [p]) = if at_ + tot (ps ++ [p]) ≤ c then (ps.length + 1, at_ + tot (ps ++ [p])) else wholeN c at_ ps
  | [], at_, p, _, hp => by
    have : tot ([] ++ [p]) = 8 + p.length := by rw [tot_snoc [] p hp]; simp [tot, joinF]
    rw [this]
    simp only [List.nil_append, wholeN]
    by_cases h : at_ + 8 + p.length ≤ c
    · rw [if_pos h, if_pos (by omega)]; simp; omega
    · rw [if_neg h, if_neg (by omega)]
  | q :: ps, at_, p, hq, hp => by
    have hq0 := hq q (by simp)
    have ih := wholeN_snoc c ps (at_ + 8 + q.length) p (fun r hr => hq r (by simp [hr])) hp
    have ht : tot (q :: ps ++ [p]) = 8 + q.length + tot (ps ++ [p]) := by
      unfold tot
      show (frameL q ++ joinF (ps ++ [p])).length = _
      rw [List.length_append, frame_len hq0]
    rw [List.cons_append, wholeN, wholeN, ih]
    rw [List.cons_append] at ht
    rw [ht]
    by_cases h : at_ + 8 + q.length ≤ c
    · rw [if_pos h, if_pos h]
      by_cases h2 : at_ + 8 + q.length + tot (ps ++ [p]) ≤ c
      · rw [if_pos h2, if_pos (by omega)]; simp; omega
      · rw [if_neg h2, if_neg (by omega)]
    · rw [if_neg h, if_neg h, if_neg (by omega)]
theorem wholeN_le (c : Nat) : ∀ (ps : List (List UInt8)) (at_ : Nat), (wholeN c at_ ps).1 ≤ ps.length
  | [], _ => by simp [wholeN]
  | p :: ps, at_ => by
    rw [wholeN]
    split
    · have := wholeN_le c ps (at_ + 8 + p.length)
      simp; omega
    · simp
def PartsAre (W : World) (ad : Option Addr) (ps : List (List UInt8)) : Prop := ps = [] ∨ ∃ b o, ad = some ⟨b, o, none⟩ ∧ ∀ r (h : r < ps.length), ∃ a l k, W.cell? ⟨b, o + r, none⟩ = some (.slice a l.length k) ∧ lb.SB W a l k ∧ ps[r] = l.take 60
theorem parts_snoc {W : World} {b o : Nat} {ps : List (List UInt8)} {a : Option Addr} {l : List UInt8} {k : Nat} (h : PartsAre W (some ⟨b, o, none⟩) ps) (h1 : W.cell? ⟨b, o + ps.length, none⟩ = some (.slice a l.length k)) (h2 : lb.SB W a l k) : PartsAre W (some ⟨b, o, none⟩) (ps ++ [l.take 60]) := by
  right
  refine ⟨b, o, rfl, fun r hr => ?_⟩
  by_cases hlt : r < ps.length
  · rcases h with h | ⟨b', o', he, h⟩
    · subst h; simp at hlt
    · simp at he
      obtain ⟨rfl, rfl⟩ := he
      obtain ⟨a', l', k', g1, g2, g3⟩ := h r hlt
      exact ⟨a', l', k', g1, g2, by rw [List.getElem_append_left hlt]; exact g3⟩
  · have : r = ps.length := by simp at hr; omega
    subst this
    exact ⟨a, l, k, h1, h2, by simp⟩
theorem own_bytes_n {w : World} {B e n : Nat} {v : Value} {l : List UInt8} (h : w.ownsRow B e 1 v n (lb.vB l)) (hn : l.length = n) : ∃ ad c, v = .slice ad n c ∧ lb.SB w ad l c := by
  subst hn; exact lb.own_bytes h
theorem len_take {xs : List RV} {ps : List (List UInt8)} {w : Nat} (h : xs.map RV.bs = ps.take w) (hw : w ≤ ps.length) : xs.length = w := by
  have := congrArg List.length h
  simp at this; omega
theorem bs_take {xs : List RV} {ps : List (List UInt8)} {w i : Nat} (h : xs.map RV.bs = ps.take w) (hx : i < xs.length) (hp : i < ps.length) : (xs[i]).bs = ps[i] := by
  have h1 : (xs.map RV.bs)[i]? = (ps.take w)[i]? := by rw [h]
  have h2 : xs.length ≤ w := by have := congrArg List.length h; simp at this; omega
  rw [List.getElem?_take_of_lt (by omega)] at h1
  simpa [hx, hp] using h1
theorem ends_at {w : World} {B g c k j : Nat} {ps : List (List UInt8)} (h : w.ownsRow B 3 1 (.slice (some ⟨g, 0, none⟩) k c) k (vI (endsL ps))) (hk : ps.length = k) (hj : j < k) : w.cell? ⟨g, j, none⟩ = some (.int .i64 (tot (ps.take (j + 1)) : Int)) := by
  rw [h.cellAt j (by omega)]
  have : j < ps.length := by omega
  simp [vI, endsL, this]
set_option maxRecDepth 100000 in
set_option maxHeartbeats 8000000 in
theorem journalprefix_walk {H : Type} {enc : TypeId × Value → H} (W : World) (base : Nat)
    (v0 : Value) (d0 : DataW H) (p0 : List MemPlace) (k0 : Value.okWide Try.prog W .any base 74 v0) (h0 : DataW.Trod enc Try.prog W 0 (fun _ => true) true 74 v0 d0 p0)
    (v1 : Value) (d1 : DataW H) (p1 : List MemPlace) (k1 : Value.okWide Try.prog W .any base 3 v1) (h1 : DataW.Trod enc Try.prog W 0 (fun _ => true) true 3 v1 d1 p1) :
    Calls Try.prog 11 #[v0, v1] W fun e w' => e = .returned (.bool true) ∧ Below W.heap.size W w' := by
  obtain ⟨ad, n, c, rfl, hnc, hcm, hrows⟩ := lb.rows_of_trod Try.underlying74 Try.underlying22 Try.underlying5 cells_bs cells_u8 k0 h0
  obtain ⟨c0, rfl, _, _, wa⟩ := open_int Try.underlying3 k1 h1
  clear k0 k1 h0 h1
  obtain ⟨i0, hi, hz0, hz1, hz2⟩ := info_parts info_u8
  obtain ⟨i1, hj, hy0, hy1, hy2⟩ := info_parts info_int
  have HRO := Lib.hid hrows
  clear hrows
  go_enter Try.func11, Try.ntmps11
  go_upto_block 0 with (first
    | (go_at_call 42; refine (bgjournal.begun _).mono ?_; rintro e w1 ⟨rfl, hb1⟩; have HB1 := Lib.hid hb1; clear hb1)
    | fail)
  go_cut [6, 7] (fun bv ev wx => ∃ ps : List (List UInt8), ps.length ≤ 8 ∧ ps.length ≤ n ∧ PartsAre W ad ps ∧ (∀ p ∈ ps, p.length ≤ 60) ∧ wx.ownsRow W.heap.size 5 1 bv (tot ps) (lb.vB (joinF ps)) ∧ wx.ownsRow W.heap.size 3 1 ev ps.length (vI (endsL ps)) ∧ Below W.heap.size W wx ∧ tot ps ≤ 100 * ps.length)
  case first =>
    go_wp2_with fail
    go_loopw [6, 7, 8] (fun bv ev iv wr => ∃ ps : List (List UInt8), iv = .int .i64 (ps.length : Int) ∧ ps.length ≤ 8 ∧ ps.length ≤ n ∧ PartsAre W ad ps ∧ (∀ p ∈ ps, p.length ≤ 60) ∧ wr.ownsRow W.heap.size 5 1 bv (tot ps) (lb.vB (joinF ps)) ∧ wr.ownsRow W.heap.size 3 1 ev ps.length (vI (endsL ps)) ∧ Below W.heap.size W wr ∧ tot ps ≤ 100 * ps.length) (fun _ _ iv _ => 9 - (intOf iv).toNat)
    case atStart => exact ⟨[], rfl, by simp, by simp, .inl rfl, (fun p hp => by cases hp), lb.own_nil _ _ _ _, World.ownsRow_nil _ _ _ _, HB1.out, by simp [tot, joinF]⟩
    case round =>
      obtain ⟨ps, rfl, hk6, hk, hpa, hp60, ho, hoe, hb, hT⟩ := hrel
      obtain ⟨k, hkl⟩ : ∃ k, ps.length = k := ⟨_, rfl⟩
      simp only [hkl] at hk6 hk hoe hT ⊢
      have HKL := Lib.hid hkl
      have HPA := Lib.hid hpa
      have HP60 := Lib.hid hp60
      clear hkl hpa hp60
      by_cases hlt : k < n ∧ k < 8
      · obtain ⟨hlt1, hlt2⟩ := hlt
        obtain ⟨b, o, rfl, hr⟩ := HRO.out.resolve_left (by omega)
        obtain ⟨a, l, q, e1, e2⟩ := hr k hlt1
        have e1' := (hb.cell (p := ⟨b, o + k, none⟩) (World.block_lt_of_cell? W _ e1)).trans e1
        have e2' := e2.below hb
        have hls := e2.le
        have hlm := e2.max
        have hmn : (l.take 60).length = min l.length 60 := by simp; omega
        obtain ⟨m, hm⟩ : ∃ m, min l.length 60 = m := ⟨_, rfl⟩
        have hm60 : m ≤ 60 := by omega
        rw [hm] at hmn
        have hsh := short_calls a l.length q 60 wr (by omega) (by decide) hls
        rw [hm] at hsh
        have HSH := Lib.hid hsh
        have HSP := Lib.hid (sb_take e2' 60)
        have HMN := Lib.hid hmn
        have HPS := Lib.hid (parts_snoc (ps := ps) (a := a) (l := l) (k := q) HPA.out (by rw [HKL.out]; exact e1) e2)
        have hts := tot_snoc ps (l.take 60) (by omega)
        rw [hmn] at hts
        have HTS := Lib.hid hts
        obtain ⟨adb, cpb, rfl⟩ := lb.own_shape ho
        obtain ⟨ade, cpe, rfl⟩ := lb.own_shape hoe
        have HO := Lib.hid ho
        have HOE := Lib.hid hoe
        have HB := Lib.hid hb
        have HJL : Hid ((joinF ps).length = tot ps) := Lib.hid rfl
        obtain ⟨T, hTT⟩ : ∃ T, tot ps = T := ⟨_, rfl⟩
        rw [hTT] at HTS HO HJL hT
        simp only [hTT]
        clear e1 e2 e2' hsh hmn hm hr ho hoe hb hts hTT
        go_wp2_with (first
          | (go_at_call 13; refine HSH.out.mono ?_; rintro e w2 ⟨rfl, rfl⟩)
          | (go_at_call 43; refine (frame_n a m q (l.take 60) wr HSP.out HMN.out (by omega)).mono ?_; rintro e w3 ⟨af, cf, rfl, hof, hsf, hbf⟩; have HSF := Lib.hid hsf; have HBF := Lib.hid hbf; have hB3 := lb.below_then HB.out hbf; have HB3 := Lib.hid hB3; have HO3 := Lib.hid (lb.own_later HO.out hbf); have HOE3 := Lib.hid (lb.own_later HOE.out hbf); have HFL := Lib.hid ((frame_len (l := l.take 60) (by have := HMN.out; omega)).trans (congrArg (8 + ·) HMN.out)); clear hof hsf hbf hB3)
          | (at_builtin; refine lb.catB rfl (.tmp 28) (.tmp 34) 22 rfl 5 i0 Try.underlying22 hi hz0 hz1 hz2 W w3 _ T (joinF ps) (frameL (l.take 60)) af (8 + m) cf rfl HJL.out HO3.out HB3.out rfl HFL.out HSF.out (by omega) ?_; intro v5 w5 ho5 hb5 hk5; obtain ⟨ad5, cp5, rfl⟩ := lb.own_shape ho5; have HO5 := Lib.hid ho5; have HB5 := Lib.hid hb5; have HOE5 := Lib.hid (hk5.own HOE3.out (by decide)); clear ho5 hb5 hk5)
          | (at_builtin; refine lb.app1 (by rfl) (.tmp 36) (.tmp 39) 42 (by rfl) 3 i1 (.int .i64 0) 1 8 Try.underlying42 hj hy0 hy1 hy2 rfl (by decide) W w5 _ k _ [_] (by rfl) HOE5.out HB5.out (by rfl) rfl (by intro u hu; simp at hu; subst hu; rfl) (by omega) (by omega) ?_; intro v6 w6 ho6 hb6 hk6; have HO6 := Lib.hid ho6; have HB6 := Lib.hid hb6; have HOB6 := Lib.hid (hk6.own HO5.out (by decide)); clear ho6 hb6 hk6)
          | go_in)
        refine ⟨⟨ps ++ [l.take 60], by (rw [List.length_append, HKL.out]; go_num), by (rw [List.length_append, HKL.out]; simp; omega), by (rw [List.length_append, HKL.out]; simp; omega), HPS.out, ?_, ?_, ?_, HB6.out, by (rw [HTS.out, List.length_append, HKL.out]; simp; omega)⟩, by simp [intOf]; omega⟩
        · intro p hp
          rcases List.mem_append.1 hp with hp | hp
          · exact HP60.out p hp
          · obtain rfl : p = l.take 60 := by simpa using hp
            rw [HMN.out]; exact hm60
        · rw [joinF_app]
          exact own_cast HOB6.out (by simp [joinF]) (by rw [HTS.out]; omega)
        · refine own_cast HO6.out ?_ (by rw [List.length_append, HKL.out]; rfl)
          rw [← endsL_snoc]
          congr 3
          rw [HTS.out]
          simp; omega
      · rcases (show n ≤ k ∨ (k < n ∧ 8 ≤ k) by omega) with hx | ⟨hx, hy⟩
        · go_wp2_with fail
          go_meet
          exact ⟨ps, by rw [HKL.out]; exact hk6, by rw [HKL.out]; exact hk, HPA.out, HP60.out, ho, by rw [HKL.out]; exact hoe, hb, by rw [HKL.out]; exact hT⟩
        · go_wp2_with fail
          go_meet
          exact ⟨ps, by rw [HKL.out]; exact hk6, by rw [HKL.out]; exact hk, HPA.out, HP60.out, ho, by rw [HKL.out]; exact hoe, hb, by rw [HKL.out]; exact hT⟩
  case rest =>
    obtain ⟨ps, hk6, hk, hpa, hp60, ho, hoe, hb, hT⟩ := hcut
    obtain ⟨k, hkl⟩ : ∃ k, ps.length = k := ⟨_, rfl⟩
    rw [hkl] at hk6 hk hoe hT
    have HKL := Lib.hid hkl
    have HPA := Lib.hid hpa
    have HP60 := Lib.hid hp60
    obtain ⟨T, hTT⟩ : ∃ T, tot ps = T := ⟨_, rfl⟩
    have HTT := Lib.hid hTT
    rw [hTT] at hT ho
    obtain ⟨adb, cpb, rfl, hsb⟩ := own_bytes_n ho (by exact hTT)
    obtain ⟨ade, cpe, rfl⟩ := lb.own_shape hoe
    have HSB := Lib.hid hsb
    have HOE := Lib.hid hoe
    have HB := Lib.hid hb
    clear hkl hpa hp60 hTT ho hoe hb hsb
    go_upto_region 11 with fail
    go_cut [48] (fun tv wx => ∃ t : Bool, tv = .bool t ∧ (t = true → c0 < 0 ∨ (T : Int) < c0) ∧ (t = false → 0 ≤ c0 ∧ c0 ≤ T) ∧ wx = wc)
    case first =>
      rcases (show c0 < 0 ∨ (0 ≤ c0 ∧ (T : Int) < c0) ∨ (0 ≤ c0 ∧ c0 ≤ T) by omega) with g | ⟨g, g'⟩ | ⟨g, g'⟩
      · go_wp2_with fail
        go_meet
        exact ⟨true, rfl, fun _ => .inl g, (fun h => by cases h), rfl⟩
      · go_wp2_with fail
        go_meet
        exact ⟨true, rfl, fun _ => .inr g', (fun h => by cases h), rfl⟩
      · go_wp2_with fail
        go_meet
        exact ⟨_, rfl, (fun h => by simp at h; omega), (fun h => ⟨g, g'⟩), rfl⟩
    case rest =>
    obtain ⟨t, rfl, ht1, ht2, rfl⟩ := hcut
    have HT1 := Lib.hid ht1
    have HT2 := Lib.hid ht2
    clear ht1 ht2
    go_upto_if 48 with fail
    go_cut [1] (fun cv wx => ∃ q : Nat, cv = .int .i64 (q : Int) ∧ q ≤ T ∧ wx = wc)
    case first =>
      cases t
      · obtain ⟨g, g'⟩ := HT2.out rfl
        obtain ⟨q, rfl⟩ : ∃ q : Nat, c0 = q := ⟨c0.toNat, by omega⟩
        go_wp2_with fail
        go_meet
        exact ⟨q, rfl, by omega, rfl⟩
      · go_wp2_with fail
        go_meet
        exact ⟨T, rfl, Nat.le_refl _, rfl⟩
    case rest =>
      obtain ⟨q, rfl, hq, rfl⟩ := hcut
      have hqc : q ≤ cpb := by have := HSB.out.le; have := HTT.out; unfold tot at this; omega
      have hqm := HSB.out.max
      have hlq : ((joinF ps).take q).length = q := by rw [List.length_take]; have := HTT.out; unfold tot at this; omega
      have HLQ := Lib.hid hlq
      have hsp := scan_prefix q ps [] q (fun p hp => by have := HP60.out p hp; omega) (Nat.zero_le _) (by simp only [List.nil_append]; have := HTT.out; unfold tot at this; omega) (by simp)
      simp only [List.nil_append, List.length_nil] at hsp
      obtain ⟨⟨w, e⟩, hwe⟩ : ∃ x, wholeN q 0 ps = x := ⟨_, rfl⟩
      rw [hwe] at hsp
      have hwk : w ≤ k := by have := wholeN_le q ps 0; rw [hwe, HKL.out] at this; exact this
      have HWE := Lib.hid hwe
      have HSP := Lib.hid hsp
      clear hlq hsp hwe
      go_wp2_with (first
        | (go_at_call 45; refine (scan_calls adb q cpb ((joinF ps).take q) _ (sb_take HSB.out q) HLQ.out (by omega)).mono ?_; rintro e9 w6 ⟨lv, xs, rfl, hrx, hxs, hb6⟩; rw [HLQ.out] at hxs ⊢; rw [HSP.out] at hxs ⊢; have hxl : xs.length = w := len_take hxs (by rw [HKL.out]; exact hwk); have hrx1 := hrx.1; rw [hxl] at hrx1; obtain ⟨al, cl, rfl⟩ := lb.own_shape hrx1; have HRX := Lib.hid hrx; have HXS := Lib.hid hxs; have HXL := Lib.hid hxl; have HBS := Lib.hid hb6; clear hrx hrx1 hxs hxl hb6)
        | fail)
      have HOE6 := Lib.hid (lb.own_later HOE.out HBS.out)
      have HB6 := Lib.hid (lb.below_then HB.out HBS.out)
      clear HT1 HT2
      go_loopw [11, 12, 13] (fun nv ev iv wr => ∃ j : Nat, j ≤ k ∧ iv = .int .i64 (j : Int) ∧ nv = .int .i64 ((wholeN q 0 (ps.take j)).1 : Int) ∧ ev = .int .i64 ((wholeN q 0 (ps.take j)).2 : Int) ∧ Below w6.heap.size w6 wr) (fun _ _ iv _ => k - (intOf iv).toNat)
      case atStart => exact ⟨0, Nat.zero_le _, rfl, by simp [wholeN], by simp [wholeN], Below.refl _ _⟩
      case round =>
        obtain ⟨j, hjk, rfl, rfl, rfl, hbw⟩ := hrel
        have HBW := Lib.hid hbw
        clear hbw
        by_cases hlt : j < k
        · have hoe := lb.own_later HOE6.out HBW.out
          obtain ⟨ge, rfl⟩ := own_addr hoe (by omega)
          have e1 := ends_at hoe HKL.out hlt
          have hjp : j < ps.length := by rw [HKL.out]; exact hlt
          have hsn := wholeN_snoc q (ps.take j) 0 ps[j] (fun p hp => by have := HP60.out p (List.mem_of_mem_take hp); omega) (by have := HP60.out _ (List.getElem_mem hjp); omega)
          rw [← List.take_succ_eq_append_getElem hjp, Nat.zero_add] at hsn
          have hlj : (ps.take j).length = j := by simp; omega
          rw [hlj] at hsn
          obtain ⟨E, hE⟩ : ∃ E, tot (ps.take (j + 1)) = E := ⟨_, rfl⟩
          rw [hE] at e1 hsn
          obtain ⟨⟨x1, x2⟩, hx⟩ : ∃ x, wholeN q 0 (ps.take j) = x := ⟨_, rfl⟩
          rw [hx] at hsn
          simp only [hx]
          have HSN := Lib.hid hsn
          clear hsn hx hE hlj hoe
          by_cases hEq : E ≤ q
          · go_wp2
            go_quiet (fail)
            go_wp2
            refine ⟨⟨j + 1, by omega, by go_num, ?_, ?_, ?_⟩, by simp [intOf]; omega⟩
            · rw [HSN.out, if_pos hEq]; go_num
            · rw [HSN.out, if_pos hEq]
            · first | exact lb.drewN_of HBW.out _ | exact HBW.out
          · go_wp2
            refine ⟨⟨j + 1, by omega, by go_num, ?_, ?_, HBW.out⟩, by simp [intOf]; omega⟩
            · rw [HSN.out, if_neg hEq]
            · rw [HSN.out, if_neg hEq]
        · obtain rfl : j = k := by omega
          have hall : wholeN q 0 (ps.take j) = (w, e) := by rw [List.take_of_length_le (by rw [HKL.out]; exact Nat.le_refl _)]; exact HWE.out
          simp only [hall]
          clear hall
          go_wp2_with fail
          obtain ⟨wy, hwy⟩ : ∃ wy, wy = wr := ⟨_, rfl⟩
          subst hwy
          go_loopw [14] (fun iv wz => ∃ i : Nat, i ≤ w ∧ iv = .int .i64 (i : Int) ∧ Below wy.heap.size wy wz) (fun iv _ => w - (intOf iv).toNat)
          case atStart => exact ⟨0, Nat.zero_le _, rfl, Below.refl _ _⟩
          case round =>
            obtain ⟨i, hi2, rfl, hb9⟩ := hrel
            have HB9 := Lib.hid hb9
            clear hb9
            by_cases hlt2 : i < w
            · have hx1 := HRX.out.later (lb.below_then HBW.out HB9.out)
              have hx2 := hx1.1
              rw [HXL.out] at hx2
              have hix : i < xs.length := by rw [HXL.out]; exact hlt2
              have hip : i < ps.length := by rw [HKL.out]; omega
              obtain ⟨gx, rfl⟩ := own_addr hx2 (by omega)
              have e1 := rows_at hx2 hix
              obtain ⟨a8, c8, hv8, hs8⟩ := lb.own_bytes (hx1.2 _ (List.getElem_mem hix))
              have hbs := bs_take HXS.out hix hip
              obtain ⟨b, o, rfl, hr⟩ := HPA.out.resolve_left (by intro h; rw [h] at hip; cases hip)
              obtain ⟨a, l, k9, g1, g2, g3⟩ := hr i hip
              have hbA := lb.below_then (lb.below_then HB6.out HBW.out) HB9.out
              have e2 := (hbA.cell (p := ⟨b, o + i, none⟩) (World.block_lt_of_cell? W _ g1)).trans g1
              have hs9 := sb_take (g2.below hbA) 60
              have hls := g2.le
              have hlm := g2.max
              rw [hbs, g3] at hs8
              rw [hv8, hbs, g3] at e1
              have hmn : (l.take 60).length = min l.length 60 := by simp; omega
              obtain ⟨m, hm⟩ : ∃ m, min l.length 60 = m := ⟨_, rfl⟩
              have hm60 : m ≤ 60 := by omega
              rw [hm] at hmn
              rw [hmn] at e1
              have hsh := fun wq => short_same a l.length k9 60 wq (by omega) (by decide) hls
              rw [hm] at hsh
              have hcv1 := conv_SB hs8 hmn
              have hcv2 := conv_SB hs9 hmn
              have hcd1 := fun q => conv_SB (hs8.below (lb.below_drewN wr q)) hmn
              have hcd2 := fun q => conv_SB (hs9.below (lb.below_drewN wr q)) hmn
              clear hx1 hx2 hs8 hs9 hv8 hbs hr g1 g2 g3 hbA
              go_wp2
              go_quiet ((go_at_call 13; exact Calls.quiet_of_same (hsh _)))
              go_wp2
              refine ⟨⟨i + 1, by omega, by go_num, ?_⟩, by simp [intOf]; omega⟩
              first | exact lb.drewN_of HB9.out _ | exact HB9.out
            · obtain rfl : i = w := by omega
              go_wp2
              go_ret
              exact ⟨rfl, lb.below_then (lb.below_then HB6.out HBW.out) HB9.out⟩
end Go.Proofs.Ytdbnfaeanngajaa.jr
