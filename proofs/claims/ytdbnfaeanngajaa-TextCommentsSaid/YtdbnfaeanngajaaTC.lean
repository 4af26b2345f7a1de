/- The walk of the reference's Lines: what it computes, for every slice of bytes that has an address. -/
import Derived.Test.YtdbnfaeanngajaaProg
import Derived.WalkKit
import Derived.ProofKit
import Derived.Lib.Hide
import Derived.WalkLawsBesides
import Derived.WalkSpells
import Derived.Deep.RegionWith
import Derived.Test.YtdbnfaeanngajaaTB
namespace Go.Proofs.Ytdbnfaeanngajaa.tl
open Go Go.RowKit
set_option linter.unusedVariables false
set_option linter.unusedSimpArgs false
theorem own_ne {w : World} {B e1 s1 n1 e2 s2 n2 : Nat} {v1 v2 : Value} {x1 x2 : List Value} (h1 : w.ownsRow B e1 s1 v1 n1 x1) (h2 : w.ownsRow B e2 s2 v2 n2 x2) (he : e1 ≠ e2) : v1.ownBlock = none ∨ v1.ownBlock ≠ v2.ownBlock := by
  rcases h1.2 with ⟨rfl, _⟩ | ⟨g, cap, cur, rfl, hb, hgg, rest⟩
  · exact .inl rfl
  · rcases h2.2 with ⟨rfl, _⟩ | ⟨g', cap', cur', rfl, hb', hgg', rest'⟩
    · exact .inr (by simp [Value.ownBlock])
    · refine .inr fun h => ?_
      have : g = g' := by simpa [Value.ownBlock] using h
      subst this
      rw [hgg] at hgg'
      simp at hgg'
      exact he hgg'.2
theorem own_shape {w : World} {B e sz n : Nat} {v : Value} {xs : List Value} (h : w.ownsRow B e sz v n xs) : ∃ ad cp, v = .slice ad n cp := by
  rcases h.2 with ⟨rfl, h0⟩ | ⟨g, cap, cur, rfl, _⟩
  · exact ⟨none, 0, by rw [h0]⟩
  · exact ⟨_, _, rfl⟩
theorem own_base {w : World} {B B' e sz n : Nat} {v : Value} {xs : List Value} (h : w.ownsRow B' e sz v n xs) (hB : B ≤ B') : w.ownsRow B e sz v n xs := by
  refine ⟨h.1, ?_⟩
  rcases h.2 with hn | ⟨g, cap, cur, rfl, hb, rest⟩
  · exact .inl hn
  · exact .inr ⟨g, cap, cur, rfl, Nat.le_trans hB hb, rest⟩
theorem below_grown {w w' : World} (hb : Below w.heap.size w w') (row : Option Nat) : w.grownBy w' row := ⟨hb.os, hb.tape, hb.output, hb.size, fun k hk _ => hb.block k hk⟩
theorem own_later {w w' : World} {B e s n : Nat} {v : Value} {xs : List Value} (h : w.ownsRow B e s v n xs) (hb : Below w.heap.size w w') : w'.ownsRow B e s v n xs := h.kept (below_grown hb none) (by cases v.ownBlock <;> simp)
/-- A line as it lies in memory: its number, its words' slice, and its words. -/
structure LV where
  no : Nat
  v : Value
  ws : List (List UInt8)
def lvCells (x : LV) : List Value := [.int .i64 (x.no : Int), x.v]
def LinesAt (w : World) (B e : Nat) (out : Value) (xs : List LV) : Prop := w.ownsRow B e 2 out xs.length (xs.flatMap lvCells) ∧ ∀ x ∈ xs, w.ownsRow B 9 1 x.v x.ws.length (x.ws.map sV)
theorem LinesAt.nil (w : World) (B e : Nat) : LinesAt w B e (.slice none 0 0) [] := ⟨World.ownsRow_nil _ _ _ _, fun x hx => by cases hx⟩
theorem LinesAt.later {w w' : World} {B e : Nat} {out : Value} {xs : List LV} (h : LinesAt w B e out xs) (hb : Below w.heap.size w w') : LinesAt w' B e out xs :=
  ⟨own_later h.1 hb, fun x hx => own_later (h.2 x hx) hb⟩
/-- Behind an append: the rows of words stand, since their blocks hold texts. -/
theorem LinesAt.push {w w' : World} {B e : Nat} {out out' : Value} {xs : List LV} {y : LV} (h : LinesAt w B e out xs) (hy : w.ownsRow B 9 1 y.v y.ws.length (y.ws.map sV)) (he : 9 ≠ e) (hg : w.grownBy w' out.ownBlock) (h' : w'.ownsRow B e 2 out' (xs.length + 1) (xs.flatMap lvCells ++ lvCells y)) : LinesAt w' B e out' (xs ++ [y]) := by
  refine ⟨by simpa using h', fun x hx => ?_⟩
  rcases List.mem_append.1 hx with hx | hx
  · exact (h.2 x hx).kept hg (own_ne (h.2 x hx) h.1 he)
  · obtain rfl : x = y := by simpa using hx
    exact hy.kept hg (own_ne hy h.1 he)
theorem info_rline : (Try.prog.info? 32).map (fun i => (i.zero, i.size, i.bytes)) = some (some (.agg #[.int .i64 0, .slice none 0 0]), 2, 32) := by kernel_rfl
noncomputable def lineW (no : Nat) (cur : List UInt8) : List (Nat × List (List UInt8)) := if (oneL cur).length = 0 then [] else [(no + 1, oneL cur)]
noncomputable def linesGo : Nat → List UInt8 → List UInt8 → List (Nat × List (List UInt8))
  | no, cur, [] => lineW no cur
  | no, cur, x :: l => if x.toNat = 10 then lineW no cur ++ linesGo (no + 1) [] l else linesGo no (cur ++ [x]) l
def key (x : LV) : Nat × List (List UInt8) := (x.no, x.ws)
def part (l : List UInt8) (f k : Nat) : List UInt8 := (l.drop f).take (k - f)
theorem part_len (l : List UInt8) (f k : Nat) (h : f ≤ k) (hk : k ≤ l.length) : (part l f k).length = k - f := by
  simp [part]; omega
theorem part_self (l : List UInt8) (k : Nat) : part l k k = [] := by simp [part]
theorem part_get (l : List UInt8) (f k j : Nat) (h : j < k - f) (hk : k ≤ l.length) : (part l f k).getD j 0 = l.getD (f + j) 0 := by
  simp [part, List.getD, List.getElem?_take, h, List.getElem?_drop]
theorem part_succ (l : List UInt8) (f k : Nat) (h : f ≤ k) (hk : k < l.length) : part l f (k + 1) = part l f k ++ [l.getD k 0] := by
  unfold part
  rw [show k + 1 - f = (k - f) + 1 by omega, List.take_succ_eq_append_getElem (by simp; omega)]
  simp [List.getD, hk, show f + (k - f) = k by omega]
theorem part_bytes {w : World} {b o n : Nat} {l : List UInt8} (hl : l.length = n) (hc : ∀ j, j < n → w.cell? ⟨b, o + j, none⟩ = some (.int .u8 ((l.getD j 0).toNat : Int))) (f k : Nat) (h : f ≤ k) (hk : k ≤ n) : BytesAt w (some ⟨b, o + f, none⟩) (part l f k) := by
  refine .inr ⟨b, o + f, rfl, fun j hj => ?_⟩
  rw [part_len l f k h (by omega)] at hj
  rw [part_get l f k j hj (by omega), show o + f + j = o + (f + j) by omega]
  exact hc (f + j) (by omega)
set_option maxRecDepth 100000 in
set_option maxHeartbeats 4000000 in
theorem rlines_calls (b o n c : Nat) (l : List UInt8) (W : World) (hl : l.length = n) (hn : n ≤ 1500) (hcap : n ≤ c) (hbB : b < W.heap.size) (hc : ∀ j, j < n → W.cell? ⟨b, o + j, none⟩ = some (.int .u8 ((l.getD j 0).toNat : Int))) :
    Calls Try.prog 15 #[.slice (some ⟨b, o, none⟩) n c] W fun e w' => ∃ v xs, e = .returned v ∧ LinesAt w' W.heap.size 32 v xs ∧ xs.map key = linesGo 0 [] l ∧ Below W.heap.size W w' := by
  have HL := Lib.hid hl
  have HC := Lib.hid hc
  clear hc hl
  obtain ⟨i0, hi, hz0, hz1, hz2⟩ := info_parts info_rline
  go_enter Try.func15, Try.ntmps15
  go_wp2
  go_loopw [3, 4, 5, 6] (fun ov nv fv iv wr => ∃ (k f no : Nat) (xs : List LV), k ≤ n + 1 ∧ f ≤ k ∧ no ≤ k ∧ iv = .int .i64 k ∧ fv = .int .i64 f ∧ nv = .int .i64 no ∧ LinesAt wr W.heap.size 32 ov xs ∧ xs.length ≤ k ∧ Below W.heap.size W wr ∧ linesGo 0 [] l = xs.map key ++ (if k ≤ n then linesGo no (part l f k) (l.drop k) else []))
    (fun _ _ _ i _ => n + 1 - (intOf i).toNat)
  case atStart => exact ⟨0, 0, 0, [], by omega, Nat.le_refl _, Nat.le_refl _, rfl, rfl, rfl, LinesAt.nil _ _ _, Nat.le_refl _, Below.refl _ _, by simp [part]⟩
  case round =>
    obtain ⟨k, f, no, xs, hk, hf, hno, rfl, rfl, rfl, hlin, hxs, hbel, hd⟩ := hrel
    have HD := Lib.hid hd
    have HB := Lib.hid hbel
    have HLI := Lib.hid hlin
    clear hd hbel hlin
    rcases (show k < n ∨ k = n ∨ k = n + 1 by omega) with hlt | rfl | rfl
    · obtain ⟨x, hx⟩ : ∃ x, l.getD k 0 = x := ⟨_, rfl⟩
      have hcell := (HB.out.cell (p := ⟨b, o + k, none⟩) hbB).trans (HC.out k hlt)
      rw [hx] at hcell
      have HX := Lib.hid hx
      clear hx
      have hx255 : x.toNat < 256 := x.toNat_lt
      by_cases h10 : x.toNat = 10
      · rw [h10] at hcell
        have hown := HLI.out.1
        have HP : Hid (BytesAt wr (some ⟨b, o + f, none⟩) (part l f k) ∧ (part l f k).length = k - f) := Lib.hid ⟨part_bytes HL.out (fun j hj => (HB.out.cell (p := ⟨b, o + j, none⟩) hbB).trans (HC.out j hj)) f k hf (by omega), part_len l f k hf (by rw [HL.out]; omega)⟩
        have hn1 : linesGo 0 [] l = xs.map key ++ (lineW no (part l f k) ++ linesGo (no + 1) [] (l.drop (k + 1))) := by
          rw [HD.out, if_pos (by omega), drop_get l k (by rw [HL.out]; exact hlt), HX.out, linesGo, if_pos h10]
        have HN := Lib.hid hn1
        clear hn1
        go_wp2_with (first
          | (go_at_call 51; refine (one_any (some ⟨b, o + f, none⟩) (k - f) (c - f) (part l f k) wr HP.out.2 (by omega) (fun a ha => by cases ha; exact Nat.lt_of_lt_of_le hbB HB.out.size) HP.out.1).mono ?_; rintro e w2 ⟨v, rfl, hv, hb2⟩; obtain ⟨ad, cp, rfl⟩ := own_shape hv; have hown2 := own_later hown hb2)
          | (at_builtin; refine wpList_append_own _ rfl _ _ 27 rfl W.heap.size 32 i0 (.agg #[.int .i64 0, .slice none 0 0]) 2 32 Try.underlying27 hi hz0 hz1 hz2 rfl (by decide) _ _ _ rfl (hown2.alloc _) ⟨w2.heap.size, 0, none⟩ 1 1 [.int .i64 (no + 1), .slice ad (oneL (part l f k)).length cp] rfl rfl ?c1 ?c2 ?c3 ?c4 ?c5 ?_)
          | go_in)
        case c1 =>
          intro j u hj
          match j, hj with
          | 0, hj => simp at hj; subst hj; exact World.cell?_alloc_mark w2 _ _ _ 0
          | 1, hj => simp at hj; subst hj; exact World.cell?_alloc_mark w2 _ _ _ 1
        case c2 => intro u hu; simp at hu; rcases hu with rfl | rfl <;> rfl
        case c3 => unfold maxLen; omega
        case c4 => omega
        case c5 => exact Nat.le_trans (HB.out.trans (hb2.mono HB.out.size)).size (by show w2.heap.size ≤ (w2.heap.push _).size; simp)
        · intro v' w1 hown' hgrow _
          have HO' := Lib.hid hown'
          have HG := Lib.hid hgrow
          have H2 := Lib.hid hb2
          have HV := Lib.hid hv
          have hlen : ¬ (oneL (part l f k)).length = 0 := by omega
          have HLN := Lib.hid hlen
          have hlt' := hown2.lt
          have HLT := Lib.hid hlt'
          clear hown' hgrow hb2 hv hlen hlt' hown hown2
          go_wp2
          go_roundw
          case rel =>
            have hbb := HB.out.trans (H2.out.mono HB.out.size)
            refine ⟨k + 1, k + 1, no + 1, xs ++ [⟨no + 1, .slice ad (oneL (part l f k)).length cp, oneL (part l f k)⟩], by omega, Nat.le_refl _, by omega, by go_num, by go_num, by go_num, ?_, by simp; omega, ?_, ?_⟩
            · exact ((HLI.out.later H2.out).later ((Below.refl _ _).alloc (Nat.le_refl _) _)).push (own_later (own_base HV.out HB.out.size) ((Below.refl _ _).alloc (Nat.le_refl _) _)) (by decide) HG.out HO'.out
            · exact (hbb.alloc hbb.size _).grown HG.out (Nat.le_trans hbb.size (by show w2.heap.size ≤ (w2.heap.push _).size; simp)) (fun q hq => (HLT.out q hq).1)
            · rw [HN.out, if_pos (by omega), part_self]
              simp [lineW, HLN.out, key]
          case measure => simp [intOf]; omega
        · refine ⟨⟨k + 1, k + 1, no + 1, xs, by omega, Nat.le_refl _, by omega, by go_num, by go_num, by go_num, HLI.out.later hb2, by omega, HB.out.trans (hb2.mono HB.out.size), ?_⟩, by simp [intOf]; omega⟩
          have hz : (oneL (part l f k)).length = 0 := by omega
          rw [HN.out, if_pos (by omega), part_self]
          simp [lineW, hz]
      · have g10 : ((x.toNat : Int) != 10) = true := by simp; omega
        go_wp2
        go_roundw
        case rel =>
          refine ⟨k + 1, f, no, xs, by omega, by omega, by omega, by go_num, rfl, rfl, HLI.out, by omega, HB.out, ?_⟩
          rw [HD.out, if_pos (by omega), if_pos (by omega), drop_get l k (by rw [HL.out]; exact hlt), part_succ l f k hf (by rw [HL.out]; exact hlt), HX.out, linesGo, if_neg h10]
        case measure => simp [intOf]; omega
    · rcases (show f < c ∨ f = c by omega) with hfc | hfc
      ·
        have hown := HLI.out.1
        have HP : Hid (BytesAt wr (some ⟨b, o + f, none⟩) (part l f k) ∧ (part l f k).length = k - f) := Lib.hid ⟨part_bytes HL.out (fun j hj => (HB.out.cell (p := ⟨b, o + j, none⟩) hbB).trans (HC.out j hj)) f k hf (by omega), part_len l f k hf (by rw [HL.out]; omega)⟩
        have hn1 : linesGo 0 [] l = xs.map key ++ lineW no (part l f k) := by
          rw [HD.out, if_pos (by omega), List.drop_eq_nil_of_le (by rw [HL.out]; exact Nat.le_refl _), linesGo]
        have HN := Lib.hid hn1
        clear hn1
        go_wp2_with (first
          | (go_at_call 51; refine (one_any (some ⟨b, o + f, none⟩) (k - f) (c - f) (part l f k) wr HP.out.2 (by omega) (fun a ha => by cases ha; exact Nat.lt_of_lt_of_le hbB HB.out.size) HP.out.1).mono ?_; rintro e w2 ⟨v, rfl, hv, hb2⟩; obtain ⟨ad, cp, rfl⟩ := own_shape hv; have hown2 := own_later hown hb2)
          | (at_builtin; refine wpList_append_own _ rfl _ _ 27 rfl W.heap.size 32 i0 (.agg #[.int .i64 0, .slice none 0 0]) 2 32 Try.underlying27 hi hz0 hz1 hz2 rfl (by decide) _ _ _ rfl (hown2.alloc _) ⟨w2.heap.size, 0, none⟩ 1 1 [.int .i64 (no + 1), .slice ad (oneL (part l f k)).length cp] rfl rfl ?c1 ?c2 ?c3 ?c4 ?c5 ?_)
          | go_in)
        case c1 =>
          intro j u hj
          match j, hj with
          | 0, hj => simp at hj; subst hj; exact World.cell?_alloc_mark w2 _ _ _ 0
          | 1, hj => simp at hj; subst hj; exact World.cell?_alloc_mark w2 _ _ _ 1
        case c2 => intro u hu; simp at hu; rcases hu with rfl | rfl <;> rfl
        case c3 => unfold maxLen; omega
        case c4 => omega
        case c5 => exact Nat.le_trans (HB.out.trans (hb2.mono HB.out.size)).size (by show w2.heap.size ≤ (w2.heap.push _).size; simp)
        · intro v' w1 hown' hgrow _
          have HO' := Lib.hid hown'
          have HG := Lib.hid hgrow
          have H2 := Lib.hid hb2
          have HV := Lib.hid hv
          have hlen : ¬ (oneL (part l f k)).length = 0 := by omega
          have HLN := Lib.hid hlen
          have hlt' := hown2.lt
          have HLT := Lib.hid hlt'
          clear hown' hgrow hb2 hv hlen hlt' hown hown2
          go_wp2
          go_roundw
          case rel =>
            have hbb := HB.out.trans (H2.out.mono HB.out.size)
            refine ⟨k + 1, k + 1, no + 1, xs ++ [⟨no + 1, .slice ad (oneL (part l f k)).length cp, oneL (part l f k)⟩], by omega, Nat.le_refl _, by omega, by go_num, by go_num, by go_num, ?_, by simp; omega, ?_, ?_⟩
            · exact ((HLI.out.later H2.out).later ((Below.refl _ _).alloc (Nat.le_refl _) _)).push (own_later (own_base HV.out HB.out.size) ((Below.refl _ _).alloc (Nat.le_refl _) _)) (by decide) HG.out HO'.out
            · exact (hbb.alloc hbb.size _).grown HG.out (Nat.le_trans hbb.size (by show w2.heap.size ≤ (w2.heap.push _).size; simp)) (fun q hq => (HLT.out q hq).1)
            · rw [HN.out, if_neg (by omega)]
              simp [lineW, HLN.out, key]
          case measure => (simp [intOf] <;> omega)
        · refine ⟨⟨k + 1, k + 1, no + 1, xs, by omega, Nat.le_refl _, by omega, by go_num, by go_num, by go_num, HLI.out.later hb2, by omega, HB.out.trans (hb2.mono HB.out.size), ?_⟩, by (simp [intOf] <;> omega)⟩
          have hz : (oneL (part l f k)).length = 0 := by omega
          rw [HN.out, if_neg (by omega)]
          simp [lineW, hz]
      · obtain rfl : f = k := by omega
        obtain rfl : f = c := by omega
        have hn1 : linesGo 0 [] l = xs.map key := by
          rw [HD.out, if_pos (by omega), part_self, List.drop_eq_nil_of_le (by rw [HL.out]; exact Nat.le_refl _), linesGo]
          simp [lineW, oneL, oneRun, oneEnd]
        have HN := Lib.hid hn1
        clear hn1
        have h0 : (oneL []).length = 0 := rfl
        have HZ := Lib.hid (one_any (some ⟨b, o, none⟩) 0 0 [] wr rfl (by omega) (fun a ha => by cases ha; exact Nat.lt_of_lt_of_le hbB HB.out.size) (.inl rfl))
        clear h0
        go_wp2_with (first
          | (go_at_call 51; refine HZ.out.mono ?_; rintro e w2 ⟨v, rfl, hv, hb2⟩; obtain ⟨ad, cp, rfl⟩ := own_shape hv; have HV2 := Lib.hid hv; have HB2 := Lib.hid hb2; clear hv hb2)
          | go_in)
        refine ⟨⟨f + 1, f + 1, no + 1, xs, by omega, Nat.le_refl _, by omega, by go_num, by go_num, by go_num, HLI.out.later HB2.out, by omega, HB.out.trans (HB2.out.mono HB.out.size), ?_⟩, by (simp [intOf] <;> omega)⟩
        rw [HN.out, if_neg (by omega), List.append_nil]
    · go_wp2
      go_ret
      refine ⟨_, xs, rfl, HLI.out, ?_, HB.out⟩
      rw [HD.out, if_neg (by omega), List.append_nil]
set_option maxRecDepth 100000 in
set_option maxHeartbeats 1000000 in
theorem rone_nil (ad : Option Addr) (c : Nat) (W : World) : Calls Try.prog 51 #[.slice ad 0 c] W fun e w' => e = .returned (.slice none 0 0) ∧ W = w' := by
  go_enter Try.func51, Try.ntmps51
  go_wp2
  refine wp_loop_rounds 1 ?_
  rw [rounds_succ]
  go_wp2
  go_ret
  exact ⟨rfl, rfl⟩
set_option maxRecDepth 100000 in
set_option maxHeartbeats 1000000 in
theorem rlines_nil (ad : Option Addr) (c : Nat) (W : World) : Calls Try.prog 15 #[.slice ad 0 c] W fun e w' => e = .returned (.slice none 0 0) ∧ W = w' := by
  rcases (show c = 0 ∨ 0 < c by omega) with h | h
  · subst h
    go_enter Try.func15, Try.ntmps15
    go_wp2
    refine wp_loop_rounds 2 ?_
    rw [rounds_succ]
    go_wp2_with (first | (go_at_call 51; refine (rone_nil _ _ _).mono ?_; rintro e w2 ⟨rfl, rfl⟩) | go_in)
    rw [rounds_succ]
    go_wp2
    go_ret
    exact ⟨rfl, rfl⟩
  · go_enter Try.func15, Try.ntmps15
    go_wp2
    refine wp_loop_rounds 2 ?_
    rw [rounds_succ]
    go_wp2_with (first | (go_at_call 51; refine (rone_nil _ _ _).mono ?_; rintro e w2 ⟨rfl, rfl⟩) | go_in)
    rw [rounds_succ]
    go_wp2
    go_ret
    exact ⟨rfl, rfl⟩
theorem rlines_any (ad : Option Addr) (n c : Nat) (l : List UInt8) (W : World) (hl : l.length = n) (hn : n ≤ 1500) (hcap : n ≤ c) (hc : BytesAt W ad l) :
    Calls Try.prog 15 #[.slice ad n c] W fun e w' => ∃ v xs, e = .returned v ∧ LinesAt w' W.heap.size 32 v xs ∧ xs.map key = linesGo 0 [] l ∧ Below W.heap.size W w' := by
  rcases Nat.eq_zero_or_pos n with h0 | h0
  · subst h0
    obtain rfl : l = [] := List.eq_nil_of_length_eq_zero hl
    refine (rlines_nil ad c W).mono ?_
    rintro e w' ⟨rfl, rfl⟩
    refine ⟨_, [], rfl, LinesAt.nil _ _ _, ?_, Below.refl _ _⟩
    simp [linesGo, lineW, oneL, oneRun, oneEnd]
  · rcases hc with h | ⟨b, o, rfl, h2⟩
    · subst h; simp at hl; omega
    · exact rlines_calls b o n c l W hl hn hcap (World.block_lt_of_cell? W _ (h2 0 (by omega))) (fun j hj => h2 j (by omega))
end Go.Proofs.Ytdbnfaeanngajaa.tl
