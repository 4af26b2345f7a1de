/- The walk of text.Lines: what it computes, for every slice of bytes. -/
import Derived.Test.YtdbnfaeanngajaaProg
import Derived.WalkKit
import Derived.ProofKit
import Derived.Lib.Hide
import Derived.WalkLawsBesides
import Derived.WalkSpells
import Derived.Deep.RegionWith
import Derived.Lib.IndexLaws
import Derived.Test.YtdbnfaeanngajaaTB
import Derived.Test.YtdbnfaeanngajaaTC
import Derived.Test.YtdbnfaeanngajaaSH
namespace Go.Proofs.Ytdbnfaeanngajaa.tl
open Go Go.RowKit
set_option linter.unusedVariables false
set_option linter.unusedSimpArgs false
/-- What stands ahead of a byte, and what stands behind it. -/
def upto (x : UInt8) : List UInt8 → List UInt8
  | [] => []
  | c :: l => if c == x then [] else c :: upto x l
def past (x : UInt8) : List UInt8 → List UInt8
  | [] => []
  | c :: l => if c == x then l else past x l
theorem ib (x : UInt8) : ∀ l : List UInt8, (Lib.indexByte l x = -1 ∧ upto x l = l ∧ past x l = []) ∨ ∃ j : Nat, Lib.indexByte l x = j ∧ j < l.length ∧ upto x l = l.take j ∧ past x l = l.drop (j + 1)
  | [] => .inl ⟨rfl, rfl, rfl⟩
  | c :: l => by
    unfold Lib.indexByte upto past
    by_cases h : (c == x) = true
    · rw [if_pos h, if_pos h, if_pos h]
      exact .inr ⟨0, rfl, by simp, rfl, rfl⟩
    · rw [if_neg h, if_neg h, if_neg h]
      rcases ib x l with ⟨h1, h2, h3⟩ | ⟨j, h1, h2, h3, h4⟩
      · rw [h1, h2, h3]
        exact .inl ⟨rfl, rfl, rfl⟩
      · rw [h1, h3, h4]
        have : ((j : Int) == -1) = false := by simp
        rw [this]
        exact .inr ⟨j + 1, by simp, by simp; omega, rfl, rfl⟩
theorem upto_le (x : UInt8) (l : List UInt8) : (upto x l).length ≤ l.length := by
  rcases ib x l with ⟨_, h, _⟩ | ⟨j, _, h1, h, _⟩
  · rw [h]; exact Nat.le_refl _
  · rw [h, List.length_take]; exact Nat.min_le_right _ _
theorem past_lt (x : UInt8) (l : List UInt8) (h : l ≠ []) : (past x l).length < l.length := by
  have hl : 0 < l.length := List.length_pos_iff.2 h
  rcases ib x l with ⟨_, _, h3⟩ | ⟨j, _, h1, _, h3⟩ <;> rw [h3] <;> simp <;> omega
theorem upto_get (x : UInt8) (l : List UInt8) (j : Nat) (h : j < (upto x l).length) : (upto x l).getD j 0 = l.getD j 0 := by
  rcases ib x l with ⟨_, h3, _⟩ | ⟨k, _, h1, h3, _⟩
  · rw [h3]
  · rw [h3] at h ⊢
    have : j < k := by simp at h; omega
    simp [List.getD, List.getElem?_take, this]
theorem below_drewN {B : Nat} {w W : World} (h : Below B w W) (n : Nat) : Below B w (W.drewN n) := ⟨h.os, h.tape, h.output, h.size, h.block⟩
def ints (l : List UInt8) : List Int := l.map fun c => (c.toNat : Int)
theorem ints_back (l : List UInt8) : Lib.bytesOf (ints l) = l := by
  induction l with
  | nil => rfl
  | cons c l ih =>
    show UInt8.ofNat ((c.toNat : Int)).toNat :: Lib.bytesOf (ints l) = c :: l
    rw [ih]
    simp
theorem ints_get (l : List UInt8) (j : Nat) (h : j < l.length) : (ints l).getD j 0 = ((l.getD j 0).toNat : Int) := by
  simp [ints, List.getD, h]
theorem add_flat (b o j : Nat) : (⟨b, o, none⟩ : Addr).add j = ⟨b, o + j, none⟩ := Go.WideShapes.add_plain b o j
/-- bytes.Cut at one byte. -/
theorem cut1 (b o n c b2 : Nat) (l : List UInt8) (x : UInt8) (xi : Int) (W : World) (hxi : xi = (x.toNat : Int)) (hl : l.length = n) (hcap : n ≤ c) (hn : n ≤ 4611686018427387904)
    (hc : ∀ j, j < n → W.cell? ⟨b, o + j, none⟩ = some (.int .u8 ((l.getD j 0).toNat : Int))) (hx : W.cell? ⟨b2, 0, none⟩ = some (.int .u8 xi)) :
    Calls Try.prog 47 #[.slice (some ⟨b, o, none⟩) n c, .slice (some ⟨b2, 0, none⟩) 1 1] W fun e w' => ∃ ad2 c2 f, e = .returned (.tuple #[.slice (some ⟨b, o, none⟩) (upto x l).length c, .slice ad2 (past x l).length c2, .bool f]) ∧ (past x l).length ≤ c2 ∧ (past x l = [] ∨ ∃ o2, ad2 = some ⟨b, o2, none⟩ ∧ ∀ j, j < (past x l).length → W.cell? ⟨b, o2 + j, none⟩ = some (.int .u8 (((past x l).getD j 0).toNat : Int))) ∧ Below W.heap.size W w' := by
  subst hxi
  have hi := Try.bytes_Index_one_at ⟨b, o, none⟩ n c b2 0 1 (ints l) (x.toNat : Int) W (by simp [ints, hl]) (fun j hj => by rw [add_flat, hc j hj, ints_get l j (by omega)]) hx
  rw [ints_back] at hi
  have hx8 : ((x.toNat : Int)).toNat.toUInt8 = x := by simp
  rw [hx8] at hi
  have hroom : 0 ≤ Lib.indexByte l x → Lib.indexByte l x + 1 ≤ n := by
    rcases ib x l with ⟨h1, _⟩ | ⟨j, h1, h2, _⟩ <;> rw [h1] <;> omega
  refine (Try.bytes_Cut_of (some ⟨b, o, none⟩) (some ⟨b2, 0, none⟩) n c 1 1 (Lib.indexByte l x) W hcap (Lib.indexByte_ge l x) hroom hn (hi.mono fun e w' h => ⟨h.1, 0, h.2⟩)).mono ?_
  rintro e w' ⟨rfl, q, rfl⟩
  have hbl : Below W.heap.size W (W.drewN q) := below_drewN (Below.refl _ _) q
  rcases ib x l with ⟨h1, h2, h3⟩ | ⟨j, h1, h2, h3, h4⟩
  · rw [h1, h2, h3, hl]
    exact ⟨none, 0, false, rfl, Nat.le_refl _, .inl rfl, hbl⟩
  · have hlen : (upto x l).length = j := by rw [h3]; simp; omega
    have hpl : (past x l).length = n - (j + 1) := by rw [h4]; simp [hl]
    rw [h1, hlen]
    unfold Lib.cutV
    rw [if_pos (by omega), hpl]
    refine ⟨_, c - (j + 1), true, rfl, by omega, ?_, hbl⟩
    by_cases hj : c = j + 1
    · left
      rw [h4]
      exact List.drop_eq_nil_of_le (by omega)
    · right
      refine ⟨o + (j + 1), ?_, fun i hi => ?_⟩
      · show (if c = (j : Int).toNat + 1 then some (⟨b, o, none⟩ : Addr) else (some (⟨b, o, none⟩ : Addr)).map (fun x => x.add ((j : Int).toNat + 1))) = _
        rw [if_neg (by simpa using hj)]
        simp [add_flat]
      · rw [show o + (j + 1) + i = o + (j + 1 + i) by omega, hc _ (by omega), h4]
        simp [List.getD, List.getElem?_drop]
/-- The words of a line. -/
def fieldsW (l : List UInt8) : List (List UInt8) := (Lib.goFieldsP blankN ⟨l.toArray⟩).map fun x => x.data.toList
theorem fieldsW_map (l : List UInt8) : (fieldsW l).map sV = (Lib.goFieldsP blankN ⟨l.toArray⟩).map Value.string := by
  simp [fieldsW, sV]
theorem ff_calls (l : List UInt8) (W : World) (hs : l.length ≤ 4294967296) :
    Calls Try.prog 49 #[.string ⟨l.toArray⟩, .func (.func 50) #[] #[]] W fun e w' => ∃ v, e = .returned v ∧ w'.ownsRow W.heap.size 9 1 v (fieldsW l).length ((fieldsW l).map sV) ∧ Below W.heap.size W w' := by
  refine (Try.strings_FieldsFunc_runes 50 #[] (enters_of Try.func50 (by kernel_rfl) rfl) blankN ⟨l.toArray⟩ W hs ?_).mono ?_
  · intro W' r hr hb
    exact (lines1_calls r W').mono fun e w' h => ⟨h.1, 0, h.2⟩
  · rintro e w' ⟨A, rfl, hA, hown, hb⟩
    rw [fieldsW_map, show (fieldsW l).length = (Lib.goFieldsP blankN ⟨l.toArray⟩).length by simp [fieldsW]]
    exact ⟨_, rfl, hown, hb⟩
/-- The lines that text.Lines tells. -/
def lineF (i : Nat) (l : List UInt8) : List (Nat × List (List UInt8)) := if fineL (upto 10 l) = true ∧ (fieldsW (upto 35 (upto 10 l))).length ≠ 0 then [(i, fieldsW (upto 35 (upto 10 l)))] else []
def linesF : Nat → Nat → List UInt8 → List (Nat × List (List UInt8))
  | 0, _, _ => []
  | g + 1, i, l => if l = [] then [] else lineF i l ++ linesF g (i + 1) (past 10 l)
theorem linesF_nil (g i : Nat) : linesF g i [] = [] := by cases g <;> simp [linesF]
theorem linesF_cons (g i : Nat) (l : List UInt8) (h : l ≠ []) (hg : l.length ≤ g) : ∃ g', (past 10 l).length ≤ g' ∧ linesF g i l = lineF i l ++ linesF g' (i + 1) (past 10 l) := by
  have hp := past_lt 10 l h
  cases g with
  | zero => omega
  | succ g => exact ⟨g, by omega, by rw [linesF, if_neg h]⟩
theorem info_iline : (Try.prog.info? 31).map (fun i => (i.zero, i.size, i.bytes)) = some (some (.agg #[.int .i64 0, .slice none 0 0]), 2, 32) := by kernel_rfl
def BodyAt (W : World) (b : Nat) (ad : Option Addr) (l : List UInt8) : Prop := l = [] ∨ ∃ o, ad = some ⟨b, o, none⟩ ∧ ∀ j, j < l.length → W.cell? ⟨b, o + j, none⟩ = some (.int .u8 ((l.getD j 0).toNat : Int))
def LinesRel (W : World) (b n : Nat) (l : List UInt8) (bv ov iv : Value) (wr : World) : Prop := ∃ (k g : Nat) (l' : List UInt8) (ad : Option Addr) (c' : Nat) (xs : List LV), bv = .slice ad l'.length c' ∧ iv = .int .i64 k ∧ l'.length ≤ c' ∧ BodyAt W b ad l' ∧ 1 ≤ k ∧ k + l'.length ≤ n + 1 ∧ xs.length + 1 ≤ k ∧ LinesAt wr W.heap.size 31 ov xs ∧ Below W.heap.size W wr ∧ l'.length ≤ g ∧ linesF n 1 l = xs.map key ++ linesF g k l'
def lenS (v : Value) : Nat := match v with | .slice _ n _ => n | _ => 0
theorem lrel_intro {W : World} {b n : Nat} {l : List UInt8} {wr : World} (k g : Nat) (l' : List UInt8) (ad : Option Addr) (c' : Nat) (xs : List LV) (ov : Value) (iv : Value) (h1 : iv = .int .i64 k) (h2 : l'.length ≤ c') (h3 : BodyAt W b ad l') (h4 : 1 ≤ k) (h5 : k + l'.length ≤ n + 1) (h6 : xs.length + 1 ≤ k) (h7 : LinesAt wr W.heap.size 31 ov xs) (h8 : Below W.heap.size W wr) (h9 : l'.length ≤ g) (h10 : linesF n 1 l = xs.map key ++ linesF g k l') : LinesRel W b n l (.slice ad l'.length c') ov iv wr := ⟨k, g, l', ad, c', xs, rfl, h1, h2, h3, h4, h5, h6, h7, h8, h9, h10⟩
theorem conv_at (b o c : Nat) (l : List UInt8) (w : World) (hc : ∀ j, j < l.length → w.cell? ⟨b, o + j, none⟩ = some (.int .u8 ((l.getD j 0).toNat : Int))) :
    (convert 22 9 (.slice (some ⟨b, o, none⟩) l.length c)).run Try.prog w = .ok (.string ⟨l.toArray⟩) w :=
  run_convert_bytes_back (P := Try.prog) w 22 9 5 ⟨b, o, none⟩ c l Try.underlying22 Try.underlying5 Try.underlying9 (fun j hj => by
    rw [add_flat, hc j hj]
    simp [List.getD, hj])
theorem below_refl_alloc (w : World) (o : Obj) : Below w.heap.size w (w.alloc o) := (Below.refl _ _).alloc (Nat.le_refl _) o
theorem at_below {W w : World} {b o m : Nat} {l : List UInt8} (hbB : b < W.heap.size) (hb : Below W.heap.size W w) (h : ∀ j, j < m → W.cell? ⟨b, o + j, none⟩ = some (.int .u8 ((l.getD j 0).toNat : Int))) : ∀ j, j < m → w.cell? ⟨b, o + j, none⟩ = some (.int .u8 ((l.getD j 0).toNat : Int)) :=
  fun j hj => (hb.cell (p := ⟨b, o + j, none⟩) hbB).trans (h j hj)
theorem upto_cells {w : World} {b o : Nat} {x : UInt8} {l : List UInt8} (h : ∀ j, j < l.length → w.cell? ⟨b, o + j, none⟩ = some (.int .u8 ((l.getD j 0).toNat : Int))) : ∀ j, j < (upto x l).length → w.cell? ⟨b, o + j, none⟩ = some (.int .u8 (((upto x l).getD j 0).toNat : Int)) :=
  fun j hj => by rw [upto_get x l j hj]; exact h j (Nat.lt_of_lt_of_le hj (upto_le x l))
theorem body_past {W w : World} {b : Nat} {ad : Option Addr} {l : List UInt8} (hbB : b < W.heap.size) (hb : Below W.heap.size W w) (h : l = [] ∨ ∃ o2, ad = some ⟨b, o2, none⟩ ∧ ∀ j, j < l.length → w.cell? ⟨b, o2 + j, none⟩ = some (.int .u8 ((l.getD j 0).toNat : Int))) : BodyAt W b ad l := by
  rcases h with h | ⟨o2, h1, h2⟩
  · exact .inl h
  · exact .inr ⟨o2, h1, fun j hj => (hb.cell (p := ⟨b, o2 + j, none⟩) hbB).symm.trans (h2 j hj)⟩
set_option maxRecDepth 100000 in
set_option maxHeartbeats 4000000 in
theorem lines_calls (b : Nat) (ad0 : Option Addr) (n c : Nat) (l : List UInt8) (W : World) (hl : l.length = n) (hn : n ≤ 1000000) (hcap : n ≤ c) (hc : BodyAt W b ad0 l) :
    Calls Try.prog 14 #[.slice ad0 n c] W fun e w' => ∃ v xs, e = .returned v ∧ LinesAt w' W.heap.size 31 v xs ∧ xs.length ≤ n ∧ xs.map key = linesF n 1 l ∧ Below W.heap.size W w' := by
  obtain ⟨i0, hi, hz0, hz1, hz2⟩ := info_parts info_iline
  have HC := Lib.hid hc
  clear hc
  subst hl
  go_enter Try.func14, Try.ntmps14
  go_wp2
  go_loopw [0, 3, 4] (fun bv ov iv wr => LinesRel W b l.length l bv ov iv wr) (fun bv _ _ _ => lenS bv)
  case atStart => exact lrel_intro 1 l.length l ad0 c [] _ _ rfl hcap HC.out (Nat.le_refl _) (by omega) (by simp) (LinesAt.nil _ _ _) (Below.refl _ _) (Nat.le_refl _) (by simp)
  case round =>
    obtain ⟨k, g, l', ad, c', xs, rfl, rfl, hc', hbody, hk1, hk2, hxs, hlin, hbel, hg, hd⟩ := hrel
    have HD := Lib.hid hd
    have HB := Lib.hid hbel
    have HLI := Lib.hid hlin
    have HG := Lib.hid hg
    have HBO := Lib.hid hbody
    clear hd hbel hlin hg hbody
    by_cases hne' : l' = []
    · subst hne'
      have hd : linesF l.length 1 l = xs.map key := by rw [HD.out, linesF_nil, List.append_nil]
      have HD2 := Lib.hid hd
      clear hd
      go_wp2
      go_ret
      exact ⟨_, xs, rfl, HLI.out, by omega, HD2.out.symm, HB.out⟩
    · have hlen0 : 0 < l'.length := List.length_pos_iff.2 hne'
      obtain ⟨o, rfl, hcc⟩ := HBO.out.resolve_left hne'
      have hbB := World.block_lt_of_cell? W _ (hcc 0 hlen0)
      have HCC := Lib.hid hcc
      obtain ⟨g', hg', hd2⟩ := linesF_cons g k l' hne' HG.out
      replace hd2 := HD.out.trans (congrArg (xs.map key ++ ·) hd2)
      have HD2 := Lib.hid hd2
      have HG2 := Lib.hid hg'
      have hpl := past_lt 10 l' hne'
      have hul := upto_le 10 l'
      have hul2 := upto_le 35 (upto 10 l')
      have HNE := Lib.hid hne'
      clear hcc hd2 hg' hne'
      cases hf : fineL (upto 10 l')
      · have hl0 : linesF l.length 1 l = xs.map key ++ linesF g' (k + 1) (past 10 l') := by
          rw [HD2.out]; simp [lineF, hf]
        have HL0 := Lib.hid hl0
        have HF := Lib.hid hf
        clear hl0 hf
        go_wp2_with (first
          | (go_at_call 47; refine (cut1 b o l'.length c' wr.heap.size l' 10 10 (wr.alloc (.cells #[.int .u8 10] 5)) rfl rfl hc' (by omega) (at_below hbB (HB.out.alloc HB.out.size _) HCC.out) (World.cell?_alloc_mark wr _ _ _ 0)).mono ?_; rintro e w2 ⟨ad2, c2, f2, rfl, hc2, hp2, hb2⟩; have HB2 := Lib.hid ((HB.out.alloc HB.out.size _).trans (hb2.mono (HB.out.alloc HB.out.size _).size)); have HP2 := Lib.hid (body_past hbB (HB.out.alloc HB.out.size _) hp2); have HX2 := Lib.hid ((below_refl_alloc wr _).trans (hb2.mono (below_refl_alloc wr _).size)); clear hb2 hp2)
          | (go_at_call 48; refine (fine_calls (some ⟨b, o, none⟩) (upto 10 l').length c' (upto 10 l') _ rfl (by omega) (.inr ⟨b, o, rfl, upto_cells (at_below hbB HB2.out HCC.out)⟩)).mono ?_; rw [HF.out]; rintro e w3 ⟨rfl, hw3⟩; obtain rfl := hw3)
          | go_in)
        go_roundw
        case rel => exact lrel_intro (k + 1) g' (past 10 l') ad2 c2 xs _ _ (by go_num) hc2 HP2.out (by omega) (by omega) (by omega) (HLI.out.later HX2.out) HB2.out HG2.out HL0.out
        case measure => simp [lenS]; omega
      · have HF := Lib.hid hf
        clear hf
        have hown := HLI.out.1
        have HH := Lib.hid hown
        clear hown
        go_wp2_with (first
          | (go_at_call 47; ((with_reducible refine (cut1 b o l'.length c' wr.heap.size l' 10 10 (wr.alloc (.cells #[.int .u8 10] 5)) rfl rfl hc' (by omega) (at_below hbB (HB.out.alloc HB.out.size _) HCC.out) (World.cell?_alloc_mark wr _ _ _ 0)).mono ?_); rintro e w2 ⟨ad2, c2, f2, rfl, hc2, hp2, hb2⟩); have HB2 := Lib.hid ((HB.out.alloc HB.out.size _).trans (hb2.mono (HB.out.alloc HB.out.size _).size)); have HP2 := Lib.hid (body_past hbB (HB.out.alloc HB.out.size _) hp2); have HX2 := Lib.hid ((below_refl_alloc wr _).trans (hb2.mono (below_refl_alloc wr _).size)); clear hb2 hp2)
          | (go_at_call 48; refine (fine_calls (some ⟨b, o, none⟩) (upto 10 l').length c' (upto 10 l') _ rfl (by omega) (.inr ⟨b, o, rfl, upto_cells (at_below hbB HB2.out HCC.out)⟩)).mono ?_; rw [HF.out]; rintro e w3 ⟨rfl, hw3⟩; obtain rfl := hw3)
          | (go_at_call 47; refine (cut1 b o (upto 10 l').length c' w3.heap.size (upto 10 l') 35 35 (w3.alloc (.cells #[.int .u8 35] 5)) rfl rfl (by omega) (by omega) (upto_cells (at_below hbB (HB2.out.alloc HB2.out.size _) HCC.out)) (World.cell?_alloc_mark w3 _ _ _ 0)).mono ?_; rintro e w4 ⟨ad4, c4, f4, rfl, hc4, hp4, hb4⟩; have HB4 := Lib.hid ((HB2.out.alloc HB2.out.size _).trans (hb4.mono (HB2.out.alloc HB2.out.size _).size)); have HX4 := Lib.hid (HX2.out.trans (((below_refl_alloc w3 _).trans (hb4.mono (below_refl_alloc w3 _).size)).mono HX2.out.size)); have hcv := conv_at b o c' (upto 35 (upto 10 l')) w4 (upto_cells (upto_cells (at_below hbB HB4.out HCC.out))); clear hb4 hp4 hc4)
          | (go_at_call 49; refine (ff_calls (upto 35 (upto 10 l')) w4 (by omega)).mono ?_; rintro e w5 ⟨v5, rfl, hv5, hb5⟩; clear hcv; obtain ⟨ad5, cp5, rfl⟩ := own_shape hv5; have HB5 := Lib.hid (HB4.out.trans (hb5.mono HB4.out.size)); have HX5 := Lib.hid (HX4.out.trans (hb5.mono HX4.out.size)); have HV5 := Lib.hid hv5; have hown5 := own_later HH.out HX5.out; have hsz5 := HB5.out.size; clear hv5 hb5)
          | (at_builtin; refine wpList_append_own _ rfl _ _ 25 rfl W.heap.size 31 i0 (.agg #[.int .i64 0, .slice none 0 0]) 2 32 Try.underlying25 hi hz0 hz1 hz2 rfl (by decide) _ _ _ rfl (hown5.alloc _) ⟨w5.heap.size, 0, none⟩ 1 1 [.int .i64 k, .slice ad5 (fieldsW (upto 35 (upto 10 l'))).length cp5] rfl rfl ?c1 ?c2 ?c3 ?c4 ?c5 ?_)
          | go_in)
        case c1 =>
          intro j u hj
          match j, hj with
          | 0, hj => simp at hj; subst hj; exact World.cell?_alloc_mark w5 _ _ _ 0
          | 1, hj => simp at hj; subst hj; exact World.cell?_alloc_mark w5 _ _ _ 1
        case c2 => intro u hu; simp at hu; rcases hu with rfl | rfl <;> rfl
        case c3 => unfold maxLen; omega
        case c4 => omega
        case c5 => exact Nat.le_trans HB5.out.size (by show w5.heap.size ≤ (w5.heap.push _).size; simp)
        · intro v' w1 hown' hgrow _
          have HO' := Lib.hid hown'
          have HG := Lib.hid hgrow
          have hne5 : (fieldsW (upto 35 (upto 10 l'))).length ≠ 0 := by omega
          have hl0 : linesF l.length 1 l = (xs.map key ++ [(k, fieldsW (upto 35 (upto 10 l')))]) ++ linesF g' (k + 1) (past 10 l') := by
            rw [HD2.out, lineF, if_pos ⟨HF.out, hne5⟩, List.append_assoc]
          have HL0 := Lib.hid hl0
          have hlt' := hown5.lt
          have HLT := Lib.hid hlt'
          clear hown' hgrow hl0 hne5 hlt' hown5
          go_wp2
          go_roundw
          case rel =>
            refine lrel_intro (k + 1) g' (past 10 l') ad2 c2 (xs ++ [⟨k, .slice ad5 (fieldsW (upto 35 (upto 10 l'))).length cp5, fieldsW (upto 35 (upto 10 l'))⟩]) _ _ (by go_num) hc2 HP2.out (by omega) (by omega) (by simp; omega) ?_ ?_ HG2.out ?_
            · exact ((HLI.out.later HX5.out).later (below_refl_alloc w5 _)).push (own_later (own_base HV5.out HB4.out.size) (below_refl_alloc w5 _)) (by decide) HG.out HO'.out
            · exact (HB5.out.alloc HB5.out.size _).grown HG.out (Nat.le_trans HB5.out.size (by show w5.heap.size ≤ (w5.heap.push _).size; simp)) (fun q hq => (HLT.out q hq).1)
            · rw [HL0.out]; simp [key]
          case measure => simp [lenS]; omega
        · refine ⟨lrel_intro (k + 1) g' (past 10 l') ad2 c2 xs _ _ (by go_num) hc2 HP2.out (by omega) (by omega) (by omega) (HLI.out.later HX5.out) HB5.out HG2.out ?_, by simp [lenS]; omega⟩
          have hne5 : (fieldsW (upto 35 (upto 10 l'))).length = 0 := by omega
          rw [HD2.out]; simp [lineF, hne5]
theorem lines_any (ad : Option Addr) (n c : Nat) (l : List UInt8) (W : World) (hl : l.length = n) (hn : n ≤ 1000000) (hcap : n ≤ c) (hc : BytesAt W ad l) :
    Calls Try.prog 14 #[.slice ad n c] W fun e w' => ∃ v xs, e = .returned v ∧ LinesAt w' W.heap.size 31 v xs ∧ xs.length ≤ n ∧ xs.map key = linesF n 1 l ∧ Below W.heap.size W w' := by
  rcases hc with h | ⟨b, o, h1, h2⟩
  · exact lines_calls 0 ad n c l W hl hn hcap (.inl h)
  · exact lines_calls b ad n c l W hl hn hcap (.inr ⟨o, h1, h2⟩)
end Go.Proofs.Ytdbnfaeanngajaa.tl
