/- proto.Split: what it makes of bytes. -/
import Derived.Test.YtkjjidmchepjcaaDoorProg
import Derived.WalkKit
import Derived.ProofKit
import Derived.Lib.Hide
import Derived.WalkLawsBesides
import Derived.WalkSpells
import Derived.Deep.RegionWith
import Derived.Deep.QuietTactic
import Derived.BigQuiet
import Derived.Deep.DeepCutAuto
import Derived.Deep.CutBlock
import Derived.OwnWalk
import Derived.Laws.BitsAllLaws
import Derived.Lib.QuoteBits
import Derived.Test.YtkjjidmchepjcaaDoorLB
namespace Go.Proofs.YtkjjidmchepjcaaDoor.pr
open Go Go.RowKit
set_option linter.unusedVariables false
set_option linter.unusedSimpArgs false
def headN (l : List UInt8) : Nat := (l.getD 0 0).toNat * 256 + (l.getD 1 0).toNat
/-- Bytes, split: the frames that stand whole and what is left; none: a length that may not be. -/
def splS : Nat → List UInt8 → Option (List (List UInt8) × List UInt8)
  | 0, l => some ([], l)
  | g + 1, l => if l.length < 2 then some ([], l) else if headN l = 0 ∨ 8190 < headN l then none else if l.length < 2 + headN l then some ([], l) else
    match splS g (l.drop (2 + headN l)) with
    | none => none
    | some (xs, r) => some (l.take (2 + headN l) :: xs, r)
theorem spl_short (g : Nat) {l : List UInt8} (h : l.length < 2) : splS g l = some ([], l) := by
  cases g with
  | zero => rfl
  | succ g => rw [splS, if_pos h]
theorem spl_part (g : Nat) {l : List UInt8} (h : 2 ≤ l.length) (h1 : 0 < headN l ∧ headN l ≤ 8190) (h2 : l.length < 2 + headN l) : splS g l = some ([], l) := by
  cases g with
  | zero => rfl
  | succ g => rw [splS, if_neg (by omega), if_neg (by omega), if_pos h2]
theorem spl_bad {g : Nat} {l : List UInt8} (hg : l.length ≤ g) (h : 2 ≤ l.length) (h1 : headN l = 0 ∨ 8190 < headN l) : splS g l = none := by
  cases g with
  | zero => omega
  | succ g => rw [splS, if_neg (by omega), if_pos h1]
theorem spl_next {g : Nat} {l : List UInt8} (hg : l.length ≤ g) (h : 2 ≤ l.length) (h1 : 0 < headN l ∧ headN l ≤ 8190) (h2 : 2 + headN l ≤ l.length) : ∃ g', (l.drop (2 + headN l)).length ≤ g' ∧ splS g l = match splS g' (l.drop (2 + headN l)) with
    | none => none
    | some (xs, r) => some (l.take (2 + headN l) :: xs, r) := by
  cases g with
  | zero => omega
  | succ g => exact ⟨g, by simp; omega, by rw [splS, if_neg (by omega), if_neg (by omega), if_neg (by omega)]⟩
/-- Rows of bytes in a row. -/
structure RV where
  v : Value
  bs : List UInt8
def RowsOwn (w : World) (B : Nat) (out : Value) (xs : List RV) : Prop := w.ownsRow B 24 1 out xs.length (xs.map RV.v) ∧ ∀ x ∈ xs, w.ownsRow B 5 1 x.v x.bs.length (lb.vB x.bs)
theorem RowsOwn.nil (w : World) (B : Nat) : RowsOwn w B (.slice none 0 0) [] := ⟨lb.own_nil _ _ _ _, fun x hx => by cases hx⟩
theorem RowsOwn.later {w w' : World} {B : Nat} {out : Value} {xs : List RV} (h : RowsOwn w B out xs) (hb : Below w.heap.size w w') : RowsOwn w' B out xs := ⟨lb.own_later h.1 hb, fun x hx => lb.own_later (h.2 x hx) hb⟩
set_option maxRecDepth 100000 in
theorem info_bs : (Tryd.prog.info? 24).map (fun i => (i.zero, i.size, i.bytes)) = some (some (.slice none 0 0), 1, 24) := by kernel_rfl
set_option maxRecDepth 100000 in
theorem info_u8 : (Tryd.prog.info? 5).map (fun i => (i.zero, i.size, i.bytes)) = some (some (.int .u8 0), 1, 1) := by kernel_rfl
theorem or_head (a b : UInt8) : bits .or .i64 (((a.toNat : Nat) : Int) * 256) ((b.toNat : Nat) : Int) = ((a.toNat * 256 + b.toNat : Nat) : Int) := by
  have ha := a.toNat_lt
  have hb := b.toNat_lt
  show IntKind.i64.wrap ((BitVec.ofInt 64 (((a.toNat : Nat) : Int) * 256) ||| BitVec.ofInt 64 ((b.toNat : Nat) : Int)).toNat : Int) = _
  rw [show ((a.toNat : Nat) : Int) * 256 = ((a.toNat * 256 : Nat) : Int) by omega, BitVec.toNat_or, ofInt_u64 _ (by omega), ofInt_u64 _ (by omega), nat_join 8 _ _ (by omega) (by omega)]
  exact Lib.wrap_i64_small _ (by omega)
def SplPost (W : World) (l : List UInt8) (e : Ending) (w' : World) : Prop :=
  (splS l.length l = none ∧ e = .returned (.tuple #[.slice none 0 0, .slice none 0 0, .bool false]) ∧ Below W.heap.size W w') ∨
  ∃ ys r lv rv xs, splS l.length l = some (ys, r) ∧ e = .returned (.tuple #[lv, rv, .bool true]) ∧ RowsOwn w' W.heap.size lv xs ∧ xs.map RV.bs = ys ∧ w'.ownsRow W.heap.size 5 1 rv r.length (lb.vB r) ∧ Below W.heap.size W w'
def lenV : Value → Nat
  | .slice _ n _ => n
  | _ => 0
/-- What is split so far, and what is left. -/
def Join (n0 : Nat) (l0 : List UInt8) (g : Nat) (l : List UInt8) (xs : List RV) : Prop := splS n0 l0 = match splS g l with
    | none => none
    | some (ys, r) => some (xs.map RV.bs ++ ys, r)
structure Rel (W : World) (n0 : Nat) (l0 : List UInt8) (bv lv : Value) (wr : World) (m : Nat) : Prop where
  ex : ∃ ad l c xs, bv = .slice ad m c ∧ l.length = m ∧ m ≤ n0 ∧ lb.SB W ad l c ∧ (∃ g, m ≤ g ∧ Join n0 l0 g l xs) ∧ xs.length + m ≤ n0 ∧ RowsOwn wr W.heap.size lv xs ∧ Below W.heap.size W wr
theorem sb_dropA {W : World} {b o c : Nat} {l : List UInt8} (h : lb.SB W (some ⟨b, o, none⟩) l c) (hc : ∀ j, j < l.length → W.cell? ⟨b, o + j, none⟩ = some (.int .u8 ((l.getD j 0).toNat : Int))) (m : Nat) (hm : m ≤ l.length) : lb.SB W (some ⟨b, o + m, none⟩) (l.drop m) (c - m) := by
  refine ⟨by have := h.le; simp; omega, by have := h.max; omega, (fun h => by cases h), .inr ⟨b, o + m, rfl, lb.BytesAt.drop hc m⟩⟩
theorem sb_takeA {W : World} {ad : Option Addr} {l : List UInt8} {c : Nat} (h : lb.SB W ad l c) (m : Nat) : lb.SB W ad (l.take m) c :=
  ⟨Nat.le_trans (by simp; omega) h.le, h.max, h.nil, h.at_.take m⟩
set_option maxRecDepth 100000 in
set_option maxHeartbeats 8000000 in
theorem split_calls (ad0 : Option Addr) (n0 c0 : Nat) (l0 : List UInt8) (W : World) (h : lb.SB W ad0 l0 c0) (hl : l0.length = n0) (hn : n0 ≤ 1000000) :
    Calls Tryd.prog 15 #[.slice ad0 n0 c0] W (SplPost W l0) := by
  obtain ⟨i0, hi, hz0, hz1, hz2⟩ := info_parts info_u8
  obtain ⟨i1, hj, hy0, hy1, hy2⟩ := info_parts info_bs
  have HSB0 := Lib.hid h
  have HL0 := Lib.hid hl
  clear h hl
  go_enter Tryd.func15, Tryd.ntmps15
  go_wp2
  go_loopw [0, 5] (fun bv lv wr => ∃ m, Rel W n0 l0 bv lv wr m) (fun bv _ _ => lenV bv)
  case atStart => exact ⟨n0, ⟨ad0, l0, c0, [], rfl, HL0.out, Nat.le_refl _, HSB0.out, ⟨n0, Nat.le_refl _, by unfold Join; cases splS n0 l0 with | none => rfl | some p => rfl⟩, by simp, RowsOwn.nil _ _, Below.refl _ _⟩⟩
  case round =>
    obtain ⟨m, ⟨ad, l, c, xs, rfl, hl, hm, hsb, ⟨g, hg, hjoin⟩, hxs, hrow, hbel⟩⟩ := hrel
    have HL := Lib.hid hl
    have HSB := Lib.hid hsb
    have HJ := Lib.hid hjoin
    have HR := Lib.hid hrow
    have HB := Lib.hid hbel
    have hmc : m ≤ c := by rw [← hl]; exact hsb.le
    have hcm := hsb.max
    clear hl hsb hjoin hrow hbel
    by_cases h2 : m < 2
    · have hfin : splS n0 l0 = some (xs.map RV.bs, l) := by
        have := HJ.out
        unfold Join at this
        rw [this, spl_short g (by rw [HL.out]; exact h2)]
        simp
      have HFIN := Lib.hid hfin
      clear hfin
      go_wp2_with (first
        | (at_builtin; refine lb.catB rfl (.const (.slice none 0 0)) (.tmp 45) 24 rfl 5 i0 Tryd.underlying24 hi hz0 hz1 hz2 wr _ _ 0 [] l ad m c rfl rfl (lb.own_nil _ _ _ _) (Below.refl _ _) rfl HL.out (HSB.out.below HB.out) (by omega) ?_; intro v5 w5 ho5 hb5 hk5; rw [Nat.zero_add, List.nil_append] at ho5; have HO5 := Lib.hid ho5; have HB5 := Lib.hid hb5; clear ho5 hb5 hk5)
        | fail)
      go_ret3
      refine .inr ⟨_, _, _, _, xs, by rw [HL0.out]; exact HFIN.out, rfl, HR.out.later HB5.out, rfl, ?_, lb.below_then HB.out HB5.out⟩
      rw [HL.out]
      exact lb.own_base HO5.out HB.out.size
    · obtain ⟨b, o, rfl, hcell⟩ := HSB.out.at_.resolve_left (by intro h0; have := HL.out; rw [h0] at this; simp at this; omega)
      have hcw : ∀ j, j < l.length → wr.cell? ⟨b, o + j, none⟩ = some (.int .u8 ((l.getD j 0).toNat : Int)) := fun j hj => (HB.out.cell (p := ⟨b, o + j, none⟩) (World.block_lt_of_cell? W _ (hcell j hj))).trans (hcell j hj)
      have e1 := hcw 0 (by rw [HL.out]; omega)
      have e2 := hcw 1 (by rw [HL.out]; omega)
      obtain ⟨x0, hx0⟩ : ∃ x, l.getD 0 0 = x := ⟨_, rfl⟩
      obtain ⟨x1, hx1⟩ : ∃ x, l.getD 1 0 = x := ⟨_, rfl⟩
      rw [hx0] at e1
      rw [hx1] at e2
      have hc0 := x0.toNat_lt
      have hc1 := x1.toNat_lt
      obtain ⟨n, hn'⟩ : ∃ n, x0.toNat * 256 + x1.toNat = n := ⟨_, rfl⟩
      have hhead : headN l = n := by unfold headN; rw [hx0, hx1]; exact hn'
      have hor := or_head x0 x1
      rw [hn'] at hor
      have HH := Lib.hid hhead
      have HCW := Lib.hid hcw
      have HCELL := Lib.hid hcell
      have hn65 : n ≤ 65535 := by omega
      clear hcell hcw hx0 hx1 hn' hhead
      go_upto_region 3 with fail
      rw [Nat.add_zero] at e1
      go_quiet (fail)
      obtain ⟨al, cl, rfl⟩ := lb.own_shape HR.out.1
      rcases (show (n = 0 ∨ 8190 < n) ∨ ((0 < n ∧ n ≤ 8190) ∧ m < 2 + n) ∨ ((0 < n ∧ n ≤ 8190) ∧ 2 + n ≤ m) by omega) with hb | ⟨⟨hb1, hb2⟩, hb3⟩ | ⟨⟨hb1, hb2⟩, hb3⟩
      · have hfin : splS n0 l0 = none := by
          have := HJ.out
          unfold Join at this
          rw [this, spl_bad (by rw [HL.out]; exact hg) (by rw [HL.out]; omega) (by rw [HH.out]; exact hb)]
        have HFIN := Lib.hid hfin
        clear hfin
        rcases hb with hb | hb
        · have hq : ((n : Int) == 0) = true := by rw [beq_iff_eq]; omega
          go_wp2
          go_ret3
          exact .inl ⟨by rw [HL0.out]; exact HFIN.out, rfl, lb.drewN_of HB.out _⟩
        · have hq : ((n : Int) == 0) = false := by rw [beq_eq_false_iff_ne]; omega
          go_wp2
          go_ret3
          exact .inl ⟨by rw [HL0.out]; exact HFIN.out, rfl, lb.drewN_of HB.out _⟩
      · have hfin : splS n0 l0 = some (xs.map RV.bs, l) := by
          have := HJ.out
          unfold Join at this
          rw [this, spl_part g (by rw [HL.out]; omega) (by rw [HH.out]; omega) (by rw [HH.out, HL.out]; omega)]
          simp
        have HFIN := Lib.hid hfin
        have hq : ((n : Int) == 0) = false := by rw [beq_eq_false_iff_ne]; omega
        clear hfin
        go_wp2_with (first
          | (at_builtin; refine lb.catB rfl (.const (.slice none 0 0)) (.tmp 45) 24 rfl 5 i0 Tryd.underlying24 hi hz0 hz1 hz2 wr _ _ 0 [] l (some ⟨b, o, none⟩) m c rfl rfl (lb.own_nil _ _ _ _) (lb.below_drewN wr nq) rfl HL.out ((HSB.out.below HB.out).below (lb.below_drewN wr nq)) (by omega) ?_; intro v5 w5 ho5 hb5 hk5; rw [Nat.zero_add, List.nil_append] at ho5; have HO5 := Lib.hid ho5; have HB5 := Lib.hid hb5; clear ho5 hb5 hk5)
          | fail)
        go_ret3
        refine .inr ⟨_, _, _, _, xs, by rw [HL0.out]; exact HFIN.out, rfl, HR.out.later HB5.out, rfl, ?_, lb.below_then HB.out HB5.out⟩
        rw [HL.out]
        exact lb.own_base HO5.out HB.out.size
      · have hq : ((n : Int) == 0) = false := by rw [beq_eq_false_iff_ne]; omega
        obtain ⟨g', hg', hsn⟩ := spl_next (by rw [HL.out]; exact hg) (by rw [HL.out]; omega) (by rw [HH.out]; omega) (by rw [HH.out, HL.out]; omega)
        rw [HH.out] at hg' hsn
        have hjn : ∀ v, Join n0 l0 g' (l.drop (2 + n)) (xs ++ [⟨v, l.take (2 + n)⟩]) := fun v => by
          have := HJ.out
          unfold Join at this ⊢
          rw [this, hsn]
          cases splS g' (l.drop (2 + n)) with
          | none => rfl
          | some p => simp
        have HJN := Lib.hid hjn
        have htl : (l.take (2 + n)).length = 2 + n := by rw [List.length_take, HL.out]; omega
        have HTL := Lib.hid htl
        rw [List.length_drop, HL.out] at hg'
        have hsb1 := sb_takeA (HSB.out.below HB.out) (2 + n)
        have HSB1 := Lib.hid hsb1
        clear hsn hjn htl hsb1
        rcases (show (c ≤ 2 + n ∧ 2 + n ≤ c) ∨ 2 + n < c by omega) with ⟨hcc, hcc'⟩ | hcc
        · go_wp2_with (first
            | (at_builtin; refine lb.catB ?_ (.tmp 32) (.tmp 36) 24 ?_ 5 i0 Tryd.underlying24 hi hz0 hz1 hz2 wr _ (.slice (some ⟨wr.heap.size, 0, none⟩) 0 0) 0 [] (l.take (2 + n)) (some ⟨b, o, none⟩) (2 + n) c ?_ ?_ ?_ ?_ ?_ ?_ ?_ ?_ ?_; rfl; rfl; rfl; rfl; exact (lb.own_made (wr.drewN nq) 5 0 [] rfl (by decide)); exact (lb.below_drewN wr nq).alloc (lb.below_drewN wr nq).size _; rfl; exact HTL.out; exact HSB1.out.below ((lb.below_drewN wr nq).alloc (lb.below_drewN wr nq).size _); omega; intro v1 w1 ho1 hb1 hk1; rw [Nat.zero_add, List.nil_append] at ho1; obtain ⟨ad1, cp1, rfl⟩ := lb.own_shape ho1; have HO1 := Lib.hid ho1; have HB1 := Lib.hid hb1; have hrow1 := lb.own_later HR.out.1 hb1; have hbw1 := lb.below_then HB.out hb1; clear ho1 hb1 hk1)
            | (at_builtin; refine lb.app1 (by rfl) (.tmp 31) (.tmp 38) 25 (by rfl) 24 i1 (.slice none 0 0) 1 24 Tryd.underlying25 hj hy0 hy1 hy2 rfl (by decide) W w1 _ xs.length _ [.slice ad1 (2 + n) cp1] (by rfl) hrow1 hbw1 (by rfl) rfl (by intro u hu; simp at hu; subst hu; rfl) (by omega) (by omega) ?_; intro v2 w2 ho2 hb2 hk2; have HO2 := Lib.hid ho2; have HB2 := Lib.hid hb2; have HK2 := Lib.hid hk2; clear ho2 hb2 hk2 hrow1 hbw1)
            | fail)
          refine ⟨⟨m - (2 + n), ⟨_, l.drop (2 + n), c - (2 + n), xs ++ [⟨.slice ad1 (2 + n) cp1, l.take (2 + n)⟩], rfl, by rw [List.length_drop, HL.out], by omega, (by rw [List.drop_eq_nil_of_le (by rw [HL.out]; omega)]; exact ⟨Nat.zero_le _, by omega, (fun h => by cases h), .inl rfl⟩), ⟨g', hg', HJN.out _⟩, by simp; omega, ⟨?_, fun x hx => ?_⟩, HB2.out⟩⟩, by simp only [lenV]; omega⟩
          · exact lb.own_cast HO2.out (by simp) (by simp)
          · rcases List.mem_append.1 hx with hx | hx
            · exact HK2.out.own (lb.own_later (HR.out.2 x hx) HB1.out) (by decide)
            · obtain rfl : x = ⟨.slice ad1 (2 + n) cp1, l.take (2 + n)⟩ := by simpa using hx
              have := HK2.out.own (lb.own_base HO1.out HB.out.size) (by decide)
              exact lb.own_cast this rfl HTL.out.symm
        · go_wp2_with (first
            | (at_builtin; refine lb.catB ?_ (.tmp 32) (.tmp 36) 24 ?_ 5 i0 Tryd.underlying24 hi hz0 hz1 hz2 wr _ (.slice (some ⟨wr.heap.size, 0, none⟩) 0 0) 0 [] (l.take (2 + n)) (some ⟨b, o, none⟩) (2 + n) c ?_ ?_ ?_ ?_ ?_ ?_ ?_ ?_ ?_; rfl; rfl; rfl; rfl; exact (lb.own_made (wr.drewN nq) 5 0 [] rfl (by decide)); exact (lb.below_drewN wr nq).alloc (lb.below_drewN wr nq).size _; rfl; exact HTL.out; exact HSB1.out.below ((lb.below_drewN wr nq).alloc (lb.below_drewN wr nq).size _); omega; intro v1 w1 ho1 hb1 hk1; rw [Nat.zero_add, List.nil_append] at ho1; obtain ⟨ad1, cp1, rfl⟩ := lb.own_shape ho1; have HO1 := Lib.hid ho1; have HB1 := Lib.hid hb1; have hrow1 := lb.own_later HR.out.1 hb1; have hbw1 := lb.below_then HB.out hb1; clear ho1 hb1 hk1)
            | (at_builtin; refine lb.app1 (by rfl) (.tmp 31) (.tmp 38) 25 (by rfl) 24 i1 (.slice none 0 0) 1 24 Tryd.underlying25 hj hy0 hy1 hy2 rfl (by decide) W w1 _ xs.length _ [.slice ad1 (2 + n) cp1] (by rfl) hrow1 hbw1 (by rfl) rfl (by intro u hu; simp at hu; subst hu; rfl) (by omega) (by omega) ?_; intro v2 w2 ho2 hb2 hk2; have HO2 := Lib.hid ho2; have HB2 := Lib.hid hb2; have HK2 := Lib.hid hk2; clear ho2 hb2 hk2 hrow1 hbw1)
            | fail)
          refine ⟨⟨m - (2 + n), ⟨_, l.drop (2 + n), c - (2 + n), xs ++ [⟨.slice ad1 (2 + n) cp1, l.take (2 + n)⟩], rfl, by rw [List.length_drop, HL.out], by omega, sb_dropA HSB.out HCELL.out (2 + n) (by rw [HL.out]; omega), ⟨g', hg', HJN.out _⟩, by simp; omega, ⟨?_, fun x hx => ?_⟩, HB2.out⟩⟩, by simp only [lenV]; omega⟩
          · exact lb.own_cast HO2.out (by simp) (by simp)
          · rcases List.mem_append.1 hx with hx | hx
            · exact HK2.out.own (lb.own_later (HR.out.2 x hx) HB1.out) (by decide)
            · obtain rfl : x = ⟨.slice ad1 (2 + n) cp1, l.take (2 + n)⟩ := by simpa using hx
              have := HK2.out.own (lb.own_base HO1.out HB.out.size) (by decide)
              exact lb.own_cast this rfl HTL.out.symm
end Go.Proofs.YtkjjidmchepjcaaDoor.pr
