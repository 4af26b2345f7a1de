/- The walk of the law ProtoSplit. -/
import Derived.Test.YtkjjidmchepjcaaDoorProg
import Derived.WalkKit
import Derived.ProofKit
import Derived.Lib.Hide
import Derived.WalkLawsBesides
import Derived.WalkSpells
import Derived.Deep.RegionWith
import Derived.OpenShut
import Derived.ChangeSlices
import Derived.Deep.QuietTactic
import Derived.BigQuiet
import Derived.Deep.DeepCutAuto
import Derived.Deep.CutBlock
import Derived.OwnWalk
import Derived.Laws.BytesString
import Derived.Test.YtkjjidmchepjcaaDoorPA
import Derived.Test.YtkjjidmchepjcaaDoorZR
import Derived.Test.YtkjjidmchepjcaaDoorBP
namespace Go.Proofs.YtkjjidmchepjcaaDoor.pr
open Go Go.RowKit Go.ChangeShapes Go.WideShapes
set_option linter.unusedVariables false
set_option linter.unusedSimpArgs false
/-- Whole numbers that lie in a row. -/
def IntsIn (W : World) (ad : Option Addr) (Z : List Int) : Prop := Z = [] ∨ ∃ b o, ad = some ⟨b, o, none⟩ ∧ ∀ k (h : k < Z.length), W.cell? ⟨b, o + k, none⟩ = some (.int .i64 Z[k])
theorem flat_of {w : World} {a : Addr} {v : Value} (h : w.cell? a = some v) : a.spot = none := by
  unfold World.cell? at h
  obtain ⟨b, o, s⟩ := a
  split at h
  · cases s <;> simp_all
  · cases h
set_option maxRecDepth 100000 in
theorem cells_int : Tryd.prog.cellsOf 3 = 1 := by kernel_rfl
set_option maxRecDepth 100000 in
theorem ints_of_trod {H : Type} {enc : TypeId × Value → H} {W : World} {sp : Nat → Bool} {hd : Bool} {base : Nat} {v : Value} {d : DataW H} {p : List MemPlace} (hk : Value.okWide Tryd.prog W .any base 22 v) (h : DataW.Trod enc Tryd.prog W 0 sp hd 22 v d p) :
    ∃ ad n c Z, v = .slice ad n c ∧ Z.length = n ∧ n ≤ 9223372036854775807 ∧ IntsIn W ad Z ∧ ∀ z ∈ Z, -9223372036854775808 ≤ z ∧ z ≤ 9223372036854775807 := by
  obtain ⟨fuel, h⟩ := h
  obtain ⟨a0, len0, cap0, rfl⟩ := okWide_slice Tryd.underlying22 hk
  rcases open_ints Tryd.underlying22 Tryd.underlying3 cells_int h with ⟨h1, _⟩ | ⟨a, len, cap, zs, h1, _, h2, h3, h4, _, h5, h6⟩
  · simp [Value.cells] at h1
    obtain ⟨rfl, rfl, rfl⟩ := h1
    exact ⟨none, 0, 0, [], rfl, rfl, by decide, .inl rfl, by simp⟩
  · simp [Value.cells] at h1
    obtain ⟨rfl, rfl, rfl⟩ := h1
    have hlen : len0 ≤ zs.length := by rw [h4]; split <;> omega
    refine ⟨some a, len0, cap0, zs.take len0, rfl, by simp; omega, by unfold maxLen at h3; omega, ?_, ?_⟩
    · rcases Nat.eq_zero_or_pos len0 with h0 | h0
      · subst h0; exact .inl (by simp)
      · right
        have hs : a.spot = none := by simpa [Addr.add] using flat_of (h5 0 (by omega))
        obtain ⟨b, o, s⟩ := a
        simp only at hs
        subst hs
        refine ⟨b, o, rfl, fun k hk => ?_⟩
        have hk' : k < len0 := by simp at hk; omega
        have := h5 k (by omega)
        rw [lb.add_flat] at this
        rw [this]
        simp [List.getD, show k < zs.length by omega]
    · intro z hz
      have := h6 z (List.mem_of_mem_take hz)
      simp [Lit.wf, IntKind.min, IntKind.max, IntKind.signed, IntKind.bits] at this
      omega
theorem conv_SB {w : World} {ad : Option Addr} {n c : Nat} {l : List UInt8} (h : lb.SB w ad l c) (hn : l.length = n) :
    (convert 24 9 (.slice ad n c)).run Tryd.prog w = .ok (lb.sV l) w := by
  subst hn
  cases ad with
  | none =>
    have := h.nil rfl
    have := h.le
    obtain rfl : l = [] := List.eq_nil_of_length_eq_zero (by omega)
    subst_vars
    exact run_convert_bytes_string (P := Tryd.prog) w 24 9 5 none 0 0 Tryd.underlying24 Tryd.underlying5 Tryd.underlying9
  | some a =>
    refine run_convert_bytes_back (P := Tryd.prog) w 24 9 5 a c l Tryd.underlying24 Tryd.underlying5 Tryd.underlying9 (fun j hj => ?_)
    rcases h.at_ with h0 | ⟨b, o, he, hc⟩
    · subst h0; simp at hj
    · cases he
      rw [lb.add_flat, hc j hj]
      simp [List.getD, hj]
theorem lit2 (w : World) (e : TypeId) (n : Nat) (hn : n ≤ 65535) : lb.SB (w.alloc (.cells #[.int .u8 ((n : Int) / 256), .int .u8 ((n : Int) % 256)] e)) (some ⟨w.heap.size, 0, none⟩) [UInt8.ofNat (n / 256), UInt8.ofNat (n % 256)] 2 := by
  refine ⟨by simp, by decide, (fun h => by cases h), .inr ⟨_, _, rfl, fun j hj => ?_⟩⟩
  have hc := lb.cell_new w #[.int .u8 ((n : Int) / 256), .int .u8 ((n : Int) % 256)] e (0, 0) w.heap.size j rfl
  rw [Nat.zero_add]
  refine hc.trans ?_
  have h1 : (UInt8.ofNat (n / 256)).toNat = n / 256 := by simp; omega
  have h2 : (UInt8.ofNat (n % 256)).toNat = n % 256 := by simp
  match j, hj with
  | 0, _ => simp [h1]
  | 1, _ => simp [h2]
  | j + 2, h => simp at h; omega
/-- What is split so far: the frames that end at a. -/
def SplSo (L : List UInt8) (a cnt : Nat) : Prop := ∃ g ys, (L.drop a).length ≤ g ∧ ys.length = cnt ∧ splS L.length L = match splS g (L.drop a) with
    | none => none
    | some (xs, r) => some (ys ++ xs, r)
def SplEnd (L : List UInt8) (t : Bool) (a cnt : Nat) : Prop := if t then splS L.length L = none else ∃ ys, ys.length = cnt ∧ splS L.length L = some (ys, L.drop a)
theorem spl_start (L : List UInt8) : SplSo L 0 0 := ⟨L.length, [], by simp, rfl, by
  rw [List.drop_zero]
  cases splS L.length L with
  | none => rfl
  | some p => rfl⟩
theorem so_short {L : List UInt8} {a cnt : Nat} (h : SplSo L a cnt) (h2 : L.length < a + 2) : SplEnd L false a cnt := by
  obtain ⟨g, ys, hg, hy, he⟩ := h
  rw [spl_short g (by rw [List.length_drop]; omega)] at he
  exact ⟨ys, hy, by rw [he]; simp⟩
theorem so_bad {L : List UInt8} {a cnt : Nat} (h : SplSo L a cnt) (h2 : a + 2 ≤ L.length) (h3 : headN (L.drop a) = 0 ∨ 8190 < headN (L.drop a)) : SplEnd L true a cnt := by
  obtain ⟨g, ys, hg, hy, he⟩ := h
  rw [spl_bad hg (by rw [List.length_drop]; omega) h3] at he
  exact he
theorem so_part {L : List UInt8} {a cnt : Nat} (h : SplSo L a cnt) (h2 : a + 2 ≤ L.length) (h3 : 0 < headN (L.drop a) ∧ headN (L.drop a) ≤ 8190) (h4 : L.length < a + 2 + headN (L.drop a)) : SplEnd L false a cnt := by
  obtain ⟨g, ys, hg, hy, he⟩ := h
  rw [spl_part g (by rw [List.length_drop]; omega) h3 (by rw [List.length_drop]; omega)] at he
  exact ⟨ys, hy, by rw [he]; simp⟩
theorem so_next {L : List UInt8} {a cnt : Nat} (h : SplSo L a cnt) (h2 : a + 2 ≤ L.length) (h3 : 0 < headN (L.drop a) ∧ headN (L.drop a) ≤ 8190) (h4 : a + 2 + headN (L.drop a) ≤ L.length) : SplSo L (a + (2 + headN (L.drop a))) (cnt + 1) := by
  obtain ⟨g, ys, hg, hy, he⟩ := h
  obtain ⟨g', hg', hs⟩ := spl_next hg (by rw [List.length_drop]; omega) h3 (by rw [List.length_drop]; omega)
  rw [List.drop_drop] at hg' hs
  refine ⟨g', ys ++ [(L.drop a).take (2 + headN (L.drop a))], hg', by simp [hy], ?_⟩
  rw [he, hs]
  cases splS g' (L.drop (a + (2 + headN (L.drop a)))) with
  | none => rfl
  | some p => simp
theorem post_none {W w' : World} {l : List UInt8} {e : Ending} (h : SplPost W l e w') (hn : splS l.length l = none) : e = .returned (.tuple #[.slice none 0 0, .slice none 0 0, .bool false]) ∧ Below W.heap.size W w' := by
  rcases h with ⟨_, h1, h2⟩ | ⟨ys, r, _, _, _, h1, _⟩
  · exact ⟨h1, h2⟩
  · rw [hn] at h1; cases h1
theorem post_some {W w' : World} {l r : List UInt8} {e : Ending} {ys : List (List UInt8)} (h : SplPost W l e w') (hn : splS l.length l = some (ys, r)) : ∃ lv rv xs, e = .returned (.tuple #[lv, rv, .bool true]) ∧ RowsOwn w' W.heap.size lv xs ∧ xs.map RV.bs = ys ∧ w'.ownsRow W.heap.size 5 1 rv r.length (lb.vB r) ∧ Below W.heap.size W w' := by
  rcases h with ⟨h0, _⟩ | ⟨ys', r', lv, rv, xs, h1, h2, h3, h4, h5, h6⟩
  · rw [hn] at h0; cases h0
  · rw [hn] at h1
    cases h1
    exact ⟨lv, rv, xs, h2, h3, h4, h5, h6⟩
set_option maxRecDepth 100000 in
theorem info_int : (Tryd.prog.info? 3).map (fun i => (i.zero, i.size, i.bytes)) = some (some (.int .i64 0), 1, 8) := by kernel_rfl
set_option maxRecDepth 100000 in
set_option maxHeartbeats 16000000 in
theorem protosplit_walk {H : Type} {enc : TypeId × Value → H} (W : World) (base : Nat)
    (v0 : Value) (d0 : DataW H) (p0 : List MemPlace) (k0 : Value.okWide Tryd.prog W .any base 22 v0) (h0 : DataW.Trod enc Tryd.prog W 0 (fun _ => true) true 22 v0 d0 p0)
    (v1 : Value) (d1 : DataW H) (p1 : List MemPlace) (k1 : Value.okWide Tryd.prog W .any base 3 v1) (h1 : DataW.Trod enc Tryd.prog W 0 (fun _ => true) true 3 v1 d1 p1) :
    Calls Tryd.prog 3 #[v0, v1] W fun e w' => e = .returned (.bool true) ∧ Below W.heap.size W w' := by
  obtain ⟨i0, hi, hz0, hz1, hz2⟩ := info_parts info_u8
  obtain ⟨i1, hj, hy0, hy1, hy2⟩ := info_parts info_int
  obtain ⟨ad, n0, c0, Z, rfl, hZ, hn0, hin, hZr⟩ := ints_of_trod k0 h0
  obtain ⟨cut0, rfl, _, _, wc0⟩ := open_int Tryd.underlying3 k1 h1
  have hcut0 : -9223372036854775808 ≤ cut0 ∧ cut0 ≤ 9223372036854775807 := by
    have h := wc0
    simp only [Lit.wf, Bool.and_eq_true, decide_eq_true_eq] at h
    exact h
  have HZ := Lib.hid hZ
  have HIN := Lib.hid hin
  have HZR := Lib.hid hZr
  have HCUT := Lib.hid hcut0
  clear k0 k1 h0 h1 hZ hin hZr wc0 hcut0
  go_enter Tryd.func3, Tryd.ntmps3
  go_upto_block 0 with (first
    | (go_at_call 14; refine (bgproto.begun _).mono ?_; rintro e w1 ⟨rfl, hb1⟩; have HB1 := Lib.hid hb1; clear hb1)
    | fail)
  go_cut [6] (fun bv wx => ∃ L : List UInt8, L.length ≤ 2000 ∧ wx.ownsRow W.heap.size 5 1 bv L.length (lb.vB L) ∧ Below W.heap.size W wx)
  case first =>
    go_wp2_with fail
    go_loopw [6, 7, 9] (fun bv wv iv wr => ∃ (k : Nat) (L : List UInt8) (xs : List Value), k ≤ n0 ∧ k ≤ 6 ∧ iv = .int .i64 k ∧ L.length ≤ 302 * k ∧ xs.length = k ∧ wr.ownsRow W.heap.size 5 1 bv L.length (lb.vB L) ∧ wr.ownsRow W.heap.size 3 1 wv k xs ∧ Below W.heap.size W wr) (fun _ _ iv _ => 7 - (intOf iv).toNat)
    case atStart => exact ⟨0, [], [], Nat.zero_le _, by omega, rfl, by simp, rfl, lb.own_nil _ _ _ _, lb.own_nil _ _ _ _, HB1.out⟩
    case round =>
      obtain ⟨k, L, xs, hk, hk6, rfl, hL, hxs, ho, hw, hb⟩ := hrel
      obtain ⟨ab, cb, rfl⟩ := lb.own_shape ho
      obtain ⟨aw, cw, rfl⟩ := lb.own_shape hw
      have HO := Lib.hid ho
      have HW := Lib.hid hw
      have HB := Lib.hid hb
      have HXS := Lib.hid hxs
      clear ho hw hb hxs
      by_cases hlt : k < n0 ∧ k < 6
      · obtain ⟨hlt1, hlt2⟩ := hlt
        have hkZ : k < Z.length := by rw [HZ.out]; exact hlt1
        obtain ⟨b, o, rfl, hcell⟩ := HIN.out.resolve_left (by intro h0; rw [h0] at hkZ; cases hkZ)
        have e1 := (HB.out.cell (p := ⟨b, o + k, none⟩) (World.block_lt_of_cell? W _ (hcell k hkZ))).trans (hcell k hkZ)
        have hzr := HZR.out _ (List.getElem_mem hkZ)
        obtain ⟨z, hz⟩ : ∃ z, Z[k] = z := ⟨_, rfl⟩
        rw [hz] at e1 hzr
        obtain ⟨hzr1, hzr2⟩ := hzr
        clear hcell hz
        go_upto_region 11 with fail
        go_cut [40] (fun tv wx => ∃ t : Bool, tv = .bool t ∧ (t = true → z < 0 ∨ 65535 < z) ∧ (t = false → 0 ≤ z ∧ z ≤ 65535) ∧ wx = wr)
        case first =>
          rcases (show z < 0 ∨ (0 ≤ z ∧ 65535 < z) ∨ (0 ≤ z ∧ z ≤ 65535) by omega) with g | ⟨g, g'⟩ | ⟨g, g'⟩
          · go_wp2_with fail
            go_meet
            exact ⟨true, rfl, fun _ => .inl g, (fun h => by cases h), rfl⟩
          · go_wp2_with fail
            go_meet
            exact ⟨true, rfl, fun _ => .inr g', (fun h => by cases h), rfl⟩
          · go_wp2_with fail
            go_meet
            exact ⟨_, rfl, (fun h => by simp at h; omega), (fun h => ⟨g, g'⟩), rfl⟩
        case rest =>
        obtain ⟨t, rfl, ht1, ht2, rfl⟩ := hcut
        have HT1 := Lib.hid ht1
        have HT2 := Lib.hid ht2
        clear ht1 ht2
        go_upto_if 40 with fail
        go_cut [10] (fun nv wx => ∃ n : Nat, n ≤ 65535 ∧ nv = .int .i64 (n : Int) ∧ wx = wc)
        case first =>
          cases t
          · obtain ⟨g, g'⟩ := HT2.out rfl
            go_wp2_with fail
            go_meet
            exact ⟨z.toNat, by omega, by congr 1; omega, rfl⟩
          · go_wp2_with fail
            go_meet
            exact ⟨1, by omega, rfl, rfl⟩
        case rest =>
        obtain ⟨n, hn65, rfl, rfl⟩ := hcut
        clear HT1 HT2
        go_upto_if 43 with fail
        go_cut [11] (fun sv wx => ∃ q : Nat, q ≤ 300 ∧ sv = .int .i64 (q : Int) ∧ wx = wc)
        case first =>
          rcases (show 300 < n ∨ n ≤ 300 by omega) with h | h
          · go_wp2_with fail
            go_meet
            exact ⟨300, by omega, rfl, by trivial⟩
          · go_wp2_with fail
            go_meet
            exact ⟨n, by omega, rfl, by trivial⟩
        case rest =>
        obtain ⟨q, hq, rfl, rfl⟩ := hcut
        obtain ⟨N0, hN0⟩ : ∃ N, L.length = N := ⟨_, rfl⟩
        rw [hN0] at hL HO
        simp only [hN0]
        have HL := Lib.hid hN0
        have HWL := Lib.hid (lb.own_later HW.out (lb.below_alloc wc (.cells #[.int .u8 ((n : Int) / 256), .int .u8 ((n : Int) % 256)] 5)))
        have HBL := Lib.hid (lb.below_then HB.out (lb.below_alloc wc (.cells #[.int .u8 ((n : Int) / 256), .int .u8 ((n : Int) % 256)] 5)))
        clear hN0
        go_upto_region 19 with (first
          | (at_builtin; refine lb.catB rfl (.tmp 44) (.tmp 51) 24 rfl 5 i0 Tryd.underlying24 hi hz0 hz1 hz2 W _ _ N0 L [UInt8.ofNat (n / 256), UInt8.ofNat (n % 256)] (some ⟨wc.heap.size, 0, none⟩) 2 2 rfl HL.out (lb.own_later HO.out (lb.below_alloc wc _)) HBL.out rfl rfl (lit2 wc 5 n hn65) (by omega) ?_; intro v5 w5 ho5 hb5 hk5; obtain ⟨ad5, cp5, rfl⟩ := lb.own_shape ho5; have HO5 := Lib.hid ho5; have HB5 := Lib.hid hb5; have HW5 := Lib.hid (hk5.own HWL.out (by decide)); clear ho5 hb5 hk5)
          | (at_builtin; refine lb.catZ w5 rfl (.tmp 53) (.tmp 54) 24 3 rfl 5 i0 Tryd.underlying24 Tryd.underlying3 hi hz0 hz1 hz2 W _ (N0 + 2) q _ rfl HO5.out HB5.out (by omega) (by omega) rfl (by omega) ?_; intro v6 w6 ho6 hb6 hk6; obtain ⟨ad6, cp6, rfl⟩ := lb.own_shape ho6; have HO6 := Lib.hid ho6; have HB6 := Lib.hid hb6; have HW6 := Lib.hid (hk6.own HW5.out (by decide)); clear ho6 hb6 hk6)
          | (at_builtin; refine lb.app1 (by rfl) (.tmp 56) (.tmp 58) 22 (by rfl) 3 i1 (.int .i64 0) 1 8 Tryd.underlying22 hj hy0 hy1 hy2 rfl (by decide) W w6 _ k xs [_] (by rfl) HW6.out HB6.out (by rfl) rfl (by intro u hu; simp at hu; subst hu; rfl) (by omega) (by omega) ?_; intro v7 w7 ho7 hb7 hk7; have HW7 := Lib.hid ho7; have HB7 := Lib.hid hb7; have HO7 := Lib.hid (hk7.own HO6.out (by decide)); clear ho7 hb7 hk7)
          | fail)
        rcases (show 300 < n ∨ n ≤ 300 by omega) with h | h
        · go_wp2_with fail
          go_meet
          exact ⟨_, by simp [HL.out]; omega, lb.own_cast HO7.out rfl (by simp [HL.out]; omega), HB7.out⟩
        · go_wp2_with fail
          refine ⟨⟨k + 1, _, _, by omega, by omega, by go_num, ?_, ?_, lb.own_cast HO7.out rfl (by simp [HL.out]; omega), HW7.out, HB7.out⟩, by simp [intOf]; omega⟩
          · simp [HL.out]; omega
          · simp [HXS.out]
      · rcases (show n0 ≤ k ∨ (k < n0 ∧ 6 ≤ k) by omega) with hx | ⟨hx, hy⟩
        · go_wp2_with fail
          go_meet
          exact ⟨L, by omega, HO.out, HB.out⟩
        · go_wp2_with fail
          go_meet
          exact ⟨L, by omega, HO.out, HB.out⟩
  case rest =>
    obtain ⟨L0, hL0, ho0, hb0⟩ := hcut
    obtain ⟨ab, cb, rfl, hsb0⟩ := lb.own_bytes ho0
    clear ho0
    have HB := Lib.hid hb0
    have hcb := hsb0.max
    have hlb := hsb0.le
    have HSB := Lib.hid hsb0
    obtain ⟨N0, hN0⟩ : ∃ N, L0.length = N := ⟨_, rfl⟩
    rw [hN0] at hL0 hlb
    simp only [hN0]
    have HL0 := Lib.hid hN0
    clear hb0 hsb0 hN0 HIN HZ HZR HB1
    obtain ⟨hcu1, hcu2⟩ := HCUT.out
    go_upto_if 63 with fail
    go_cut [1] (fun cv wx => ∃ q : Nat, q ≤ 9223372036854775807 ∧ cv = .int .i64 (q : Int) ∧ wx = wc)
    case first =>
      rcases (show cut0 < 0 ∨ 0 ≤ cut0 by omega) with h | h
      · go_wp2_with fail
        go_meet
        exact ⟨(-(cut0 + 1)).toNat, by omega, by congr 1; omega, rfl⟩
      · go_wp2_with fail
        go_meet
        exact ⟨cut0.toNat, by omega, by congr 1; omega, rfl⟩
    case rest =>
    obtain ⟨q, hq, rfl, rfl⟩ := hcut
    obtain ⟨r, hr, hrN⟩ : ∃ r : Nat, (q : Int) % ((N0 : Int) + 1) = r ∧ r ≤ N0 := ⟨q % (N0 + 1), (Int.natCast_emod q (N0 + 1)).symm, by have := Nat.mod_lt q (show 0 < N0 + 1 by omega); omega⟩
    go_upto_block 2 with fail
    obtain ⟨M, hM⟩ : ∃ M, N0 - r = M := ⟨_, rfl⟩
    have hMN : M ≤ N0 := by omega
    obtain ⟨L, hLd⟩ : ∃ L, L0.take M = L := ⟨_, rfl⟩
    have hLM : L.length = M := by rw [← hLd, List.length_take, HL0.out]; omega
    have hsbL : lb.SB wc ab L cb := by rw [← hLd]; exact sb_takeA HSB.out M
    simp only [hM]
    have HLM := Lib.hid hLM
    have HSBL := Lib.hid hsbL
    clear hLd hLM hsbL hM hr hrN HSB HL0
    go_cut [8, 12, 13] (fun bv av cv wx => ∃ t a cnt, bv = .bool t ∧ av = .int .i64 ((a : Nat) : Int) ∧ cv = .int .i64 ((cnt : Nat) : Int) ∧ a ≤ M ∧ SplEnd L t a cnt ∧ Below wc.heap.size wc wx)
    case first =>
      obtain ⟨wq, hwq⟩ : ∃ wq, wq = wc := ⟨_, rfl⟩
      subst hwq
      go_wp2_with fail
      go_loopw [8, 12, 13] (fun bv av cv wx => ∃ a cnt, bv = .bool false ∧ av = .int .i64 ((a : Nat) : Int) ∧ cv = .int .i64 ((cnt : Nat) : Int) ∧ a ≤ M ∧ cnt ≤ a ∧ SplSo L a cnt ∧ Below wq.heap.size wq wx) (fun _ av _ _ => M - (intOf av).toNat)
      case atStart => exact ⟨0, 0, rfl, rfl, rfl, Nat.zero_le _, Nat.le_refl _, spl_start L, Below.refl _ _⟩
      case round =>
        obtain ⟨a, cnt, rfl, rfl, rfl, haM, hca, hso, hbw⟩ := hrel
        have HSO := Lib.hid hso
        have HBW := Lib.hid hbw
        clear hso hbw
        by_cases h2 : M < a + 2
        · go_wp2_with fail
          go_meet
          exact ⟨false, a, cnt, rfl, rfl, rfl, haM, so_short HSO.out (by rw [HLM.out]; omega), HBW.out⟩
        · obtain ⟨b, o, rfl, hcell⟩ := HSBL.out.at_.resolve_left (by intro h0; have := HLM.out; rw [h0] at this; simp at this; omega)
          have hcw : ∀ j, j < L.length → wr.cell? ⟨b, o + j, none⟩ = some (.int .u8 ((L.getD j 0).toNat : Int)) := fun j hj => (HBW.out.cell (p := ⟨b, o + j, none⟩) (World.block_lt_of_cell? wq _ (hcell j hj))).trans (hcell j hj)
          have e1 := hcw a (by rw [HLM.out]; omega)
          have e2 := hcw (a + 1) (by rw [HLM.out]; omega)
          obtain ⟨x0, hx0⟩ : ∃ x, L.getD a 0 = x := ⟨_, rfl⟩
          obtain ⟨x1, hx1⟩ : ∃ x, L.getD (a + 1) 0 = x := ⟨_, rfl⟩
          rw [hx0] at e1
          rw [hx1] at e2
          have hc0 := x0.toNat_lt
          have hc1 := x1.toNat_lt
          obtain ⟨n, hn'⟩ : ∃ n, x0.toNat * 256 + x1.toNat = n := ⟨_, rfl⟩
          have hhead : headN (L.drop a) = n := by unfold headN; rw [← hn', ← hx0, ← hx1]; simp [List.getD]
          have hsum : ((x0.toNat : Nat) : Int) * 256 + ((x1.toNat : Nat) : Int) = (n : Int) := by omega
          have HH := Lib.hid hhead
          have hn65 : n ≤ 65535 := by omega
          clear hcell hcw hx0 hx1 hn' hhead
          go_upto_region 25 with fail
          go_quiet (fail)
          rcases (show (n = 0 ∨ 8190 < n) ∨ ((0 < n ∧ n ≤ 8190) ∧ M < a + 2 + n) ∨ ((0 < n ∧ n ≤ 8190) ∧ a + 2 + n ≤ M) by omega) with hb | ⟨⟨hb1, hb2⟩, hb3⟩ | ⟨⟨hb1, hb2⟩, hb3⟩
          · have hfin := so_bad HSO.out (by rw [HLM.out]; omega) (by rw [HH.out]; exact hb)
            have HFIN := Lib.hid hfin
            clear hfin
            rcases hb with hb | hb
            · have hq : ((n : Int) == 0) = true := by rw [beq_iff_eq]; omega
              go_wp2
              go_meet
              exact ⟨true, a, cnt, rfl, rfl, rfl, haM, HFIN.out, lb.drewN_of HBW.out _⟩
            · have hq : ((n : Int) == 0) = false := by rw [beq_eq_false_iff_ne]; omega
              go_wp2
              go_meet
              exact ⟨true, a, cnt, rfl, rfl, rfl, haM, HFIN.out, lb.drewN_of HBW.out _⟩
          · have hfin := so_part HSO.out (by rw [HLM.out]; omega) (by rw [HH.out]; exact ⟨hb1, hb2⟩) (by rw [HH.out, HLM.out]; exact hb3)
            have HFIN := Lib.hid hfin
            clear hfin
            have hq : ((n : Int) == 0) = false := by rw [beq_eq_false_iff_ne]; omega
            go_wp2
            go_meet
            exact ⟨false, a, cnt, rfl, rfl, rfl, haM, HFIN.out, lb.drewN_of HBW.out _⟩
          · have hfin := so_next HSO.out (by rw [HLM.out]; omega) (by rw [HH.out]; exact ⟨hb1, hb2⟩) (by rw [HH.out, HLM.out]; exact hb3)
            rw [HH.out] at hfin
            have HFIN := Lib.hid hfin
            clear hfin
            have hq : ((n : Int) == 0) = false := by rw [beq_eq_false_iff_ne]; omega
            go_wp2
            refine ⟨⟨a + (2 + n), cnt + 1, rfl, by go_num, by go_num, by omega, by omega, HFIN.out, lb.drewN_of HBW.out _⟩, by simp [intOf]; omega⟩
    case rest =>
    obtain ⟨t, a, cnt, rfl, rfl, rfl, haM, hend, hbx⟩ := hcut
    have HBX := Lib.hid hbx
    have hsp := split_calls ab M cb L wc (HSBL.out.below hbx) HLM.out (by omega)
    cases t
    · obtain ⟨ys, hys, he⟩ := hend
      have HSP := Lib.hid (hsp.mono fun e w' hp => post_some hp he)
      have HYS := Lib.hid hys
      clear hsp he hys hbx
      go_upto_if 8 with (first
        | (go_at_call 15; refine HSP.out.mono ?_; rintro e w6 ⟨lv, rv, xs, rfl, hro, hxs, hrv, hb6⟩; have hxl := congrArg List.length hxs; rw [List.length_map, HYS.out] at hxl; have hr1 := hro.1; rw [hxl] at hr1; obtain ⟨al, cl, rfl⟩ := lb.own_shape hr1; obtain ⟨ar, cr, rfl, hs6⟩ := lb.own_bytes hrv; have HS6 := Lib.hid hs6; have HB6 := Lib.hid hb6; clear hro hrv hs6 hb6 hr1 hxs hxl)
        | fail)
      have hdl : (L.drop a).length = M - a := by rw [List.length_drop, HLM.out]
      obtain ⟨R, hR⟩ : ∃ R, L.drop a = R := ⟨_, rfl⟩
      have hlr : L.length - a = M - a := by rw [HLM.out]
      rw [hR] at hdl
      simp only [hlr]
      have hs7 := HS6.out
      rw [hR] at hs7
      have hfin := lb.below_then (lb.below_then HB.out HBX.out) HB6.out
      have HFN := Lib.hid hfin
      have hsq : ∀ q, lb.SB (w6.drewN q) ar R cr := fun q => hs7.below (lb.below_drewN w6 q)
      have hcd1 := fun q => conv_SB (hsq q) hdl
      have hcv1 := conv_SB hs7 hdl
      have hsb6 : lb.SB w6 ab L cb := (HSBL.out.below HBX.out).below HB6.out
      clear hlr hsq
      rcases (show ab = none ∨ cb ≤ a ∨ (ab ≠ none ∧ a < cb) by rcases ab with _ | x; exact .inl rfl; rcases Nat.lt_or_ge a cb with h | h; exact .inr (.inr ⟨by simp, h⟩); exact .inr (.inl h)) with h0 | h0 | ⟨h0, h1⟩
      · subst h0
        have h1 := hsb6.nil rfl
        subst h1
        obtain rfl : M = 0 := by omega
        obtain rfl : a = 0 := by omega
        have hs8 : lb.SB w6 none R 0 := by rw [← hR, List.drop_zero]; exact hsb6
        have hcd2 := fun q => conv_SB (hs8.below (lb.below_drewN w6 q)) hdl
        have hcv2 := conv_SB hs8 hdl
        clear hs7 hs8 hsb6 hR
        go_quiet (fail)
        go_wp2
        go_ret
        exact ⟨rfl, lb.drewN_of HFN.out _⟩
      · cases ab with
        | none =>
          have h1 := hsb6.nil rfl
          subst h1
          obtain rfl : M = 0 := by omega
          obtain rfl : a = 0 := by omega
          have hs8 : lb.SB w6 none R 0 := by rw [← hR, List.drop_zero]; exact hsb6
          have hcd2 := fun q => conv_SB (hs8.below (lb.below_drewN w6 q)) hdl
          have hcv2 := conv_SB hs8 hdl
          clear hs7 hs8 hsb6 hR
          go_quiet (fail)
          go_wp2
          go_ret
          exact ⟨rfl, lb.drewN_of HFN.out _⟩
        | some x =>
          have hR0 : R = [] := by rw [← hR]; exact List.drop_eq_nil_of_le (by rw [HLM.out]; omega)
          have hs8 : ∀ y c, c ≤ 9223372036854775807 → lb.SB w6 (some y) R c := fun y c hc => by rw [hR0]; exact ⟨Nat.zero_le _, hc, (fun h => by cases h), .inl rfl⟩
          have hd0 : R.length = 0 := by rw [hR0]; rfl
          obtain rfl : cb = a := by omega
          obtain rfl : M = cb := by omega
          have hcd2 := fun q => conv_SB ((hs8 x 0 (by omega)).below (lb.below_drewN w6 q)) hd0
          have hcv2 := conv_SB (hs8 x 0 (by omega)) hd0
          have hcd4 := fun q => conv_SB ((hs8 x (M - M) (by omega)).below (lb.below_drewN w6 q)) hdl
          have hcv4 := conv_SB (hs8 x (M - M) (by omega)) hdl
          have hcd3 := fun q => conv_SB ((hs8 (x.add M) 0 (by omega)).below (lb.below_drewN w6 q)) hd0
          have hcv3 := conv_SB (hs8 (x.add M) 0 (by omega)) hd0
          have hcd5 := fun q => conv_SB (hs7.below (lb.below_drewN w6 q)) hd0
          have hcv5 := conv_SB hs7 hd0
          clear hs7 hs8 hsb6 hR hR0
          go_quiet (fail)
          go_wp2
          go_ret
          exact ⟨rfl, lb.drewN_of HFN.out _⟩
      · obtain ⟨x, rfl⟩ : ∃ x, ab = some x := by cases ab with
          | none => exact absurd rfl h0
          | some x => exact ⟨x, rfl⟩
        have hs8 : lb.SB w6 (some (x.add a)) R (cb - a) := by
          rw [← hR]
          rcases hsb6.at_ with hn | ⟨b, o, he, hc⟩
          · have h2 := HLM.out
            rw [hn] at h2 ⊢
            simp only [List.drop_nil]
            exact ⟨Nat.zero_le _, by omega, (fun h => by cases h), .inl rfl⟩
          · cases he
            rw [lb.add_flat]
            exact sb_dropA hsb6 hc a (by rw [HLM.out]; exact haM)
        have hcd2 := fun q => conv_SB (hs8.below (lb.below_drewN w6 q)) hdl
        have hcv2 := conv_SB hs8 hdl
        clear hs7 hs8 hsb6 hR h0
        go_quiet (fail)
        go_wp2
        go_ret
        exact ⟨rfl, lb.drewN_of HFN.out _⟩
    · have he : splS L.length L = none := hend
      have HSP := Lib.hid (hsp.mono fun e w' hp => post_none hp he)
      clear hsp he hbx
      go_wp2_with (first
        | (go_at_call 15; refine HSP.out.mono ?_; rintro e w6 ⟨rfl, hb6⟩; have HB6 := Lib.hid hb6; clear hb6)
        | fail)
      go_ret
      exact ⟨rfl, lb.below_then (lb.below_then HB.out HBX.out) HB6.out⟩
end Go.Proofs.YtkjjidmchepjcaaDoor.pr
