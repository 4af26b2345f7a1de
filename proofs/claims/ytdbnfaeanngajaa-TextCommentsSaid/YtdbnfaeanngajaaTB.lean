/- The walks of text.fine, of a closure and of the reference of one line: what they compute, for every slice of bytes. -/
import Derived.Test.YtdbnfaeanngajaaProg
import Derived.WalkKit
import Derived.ProofKit
import Derived.Lib.Hide
import Derived.WalkLawsBesides
import Derived.WalkSpells
import Derived.Deep.RegionWith
namespace Go.Proofs.Ytdbnfaeanngajaa.tl
open Go Go.RowKit
set_option linter.unusedVariables false
set_option linter.unusedSimpArgs false
/-- The bytes of a slice lie there. -/
def BytesAt (w : World) (ad : Option Addr) (l : List UInt8) : Prop := l = [] ∨ ∃ b o, ad = some ⟨b, o, none⟩ ∧ ∀ j, j < l.length → w.cell? ⟨b, o + j, none⟩ = some (.int .u8 ((l.getD j 0).toNat : Int))
/-- May a byte stand in a line? -/
def fineC (c : UInt8) : Bool := !((decide (c.toNat < 32) && decide (c.toNat ≠ 9) && decide (c.toNat ≠ 13)) || decide (127 ≤ c.toNat))
def fineL (l : List UInt8) : Bool := l.all fineC && decide (l.length ≤ 512)
theorem fineL_drop (l : List UInt8) (k : Nat) (h : k < l.length) : (l.drop k).all fineC = (fineC (l.getD k 0) && (l.drop (k + 1)).all fineC) := by
  rw [List.drop_eq_getElem_cons h, List.all_cons]
  simp [List.getD, h]
set_option maxRecDepth 100000 in
set_option maxHeartbeats 1000000 in
theorem fine_calls (ad : Option Addr) (n c : Nat) (l : List UInt8) (W : World) (hl : l.length = n) (hb : n ≤ 140737488351232) (hc : BytesAt W ad l) :
    Calls Try.prog 48 #[.slice ad n c] W fun e w' => e = .returned (.bool (fineL l)) ∧ w' = W := by
  have HL := Lib.hid hl
  rcases hc with h0 | ⟨b, o, rfl, hc⟩
  · have hn : n = 0 := by rw [← hl, h0]; rfl
    have hr : fineL l = true := by rw [h0]; rfl
    rw [hr]
    clear hr hl h0
    subst hn
    go_enter Try.func48, Try.ntmps48
    go_wp2
    go_loop [7] (fun i => i = .int .i64 0) (fun i => 0)
    case atStart => rfl
    case round =>
      subst hrel
      go_wp2
      go_ret
      exact ⟨rfl, rfl⟩
  have HC := Lib.hid hc
  clear hc hl
  go_enter Try.func48, Try.ntmps48
  go_wp2
  go_loop [7] (fun i => ∃ k : Nat, k ≤ n ∧ i = .int .i64 k ∧ l.all fineC = (l.drop k).all fineC) (fun i => n - (intOf i).toNat)
  case atStart => exact ⟨0, Nat.zero_le _, rfl, rfl⟩
  case round =>
    obtain ⟨k, hk, rfl, hd⟩ := hrel
    have HD := Lib.hid hd
    clear hd
    by_cases hlt : k < n
    · have hcell := HC.out k (by rw [HL.out]; exact hlt)
      obtain ⟨x, hx⟩ : ∃ x, l.getD k 0 = x := ⟨_, rfl⟩
      have hnx := fineL_drop l k (by rw [HL.out]; exact hlt)
      rw [hx] at hcell hnx
      have HN := Lib.hid hnx
      clear hnx hx
      have hx255 : x.toNat < 256 := x.toNat_lt
      rcases (show x.toNat = 9 ∨ x.toNat = 13 ∨ (x.toNat < 32 ∧ x.toNat ≠ 9 ∧ x.toNat ≠ 13) ∨ (32 ≤ x.toNat ∧ x.toNat < 127) ∨ 127 ≤ x.toNat by omega) with h | h | ⟨h1, h2, h3⟩ | ⟨h1, h2⟩ | h
      · have hf : fineC x = true := by simp [fineC, h]
        rw [h] at hcell
        go_wp2
        go_round
        case rel => exact ⟨k + 1, by omega, by go_num, by rw [HD.out, HN.out, hf]; rfl⟩
        case measure => simp [intOf]; omega
      · have hf : fineC x = true := by simp [fineC, h]
        rw [h] at hcell
        go_wp2
        go_round
        case rel => exact ⟨k + 1, by omega, by go_num, by rw [HD.out, HN.out, hf]; rfl⟩
        case measure => simp [intOf]; omega
      · have hf : fineC x = false := by simp [fineC, h1, h2, h3]
        have hr : fineL l = false := by unfold fineL; rw [HD.out, HN.out, hf]; rfl
        have HR := Lib.hid hr
        have g2 : ((x.toNat : Int) != 9) = true := by simp; omega
        have g3 : ((x.toNat : Int) != 13) = true := by simp; omega
        have g4 : ((x.toNat : Int) == 9) = false := by simp; omega
        have g5 : ((x.toNat : Int) == 13) = false := by simp; omega
        clear hf hr
        go_wp2
        all_goals (go_ret; exact ⟨by rw [HR.out]; rfl, rfl⟩)
      · have hf : fineC x = true := by simp [fineC]; omega
        go_wp2
        go_round
        case rel => exact ⟨k + 1, by omega, by go_num, by rw [HD.out, HN.out, hf]; rfl⟩
        case measure => simp [intOf]; omega
      · have hf : fineC x = false := by simp [fineC]; omega
        have hr : fineL l = false := by unfold fineL; rw [HD.out, HN.out, hf]; rfl
        have HR := Lib.hid hr
        clear hf hr
        go_wp2
        all_goals (go_ret; exact ⟨by rw [HR.out]; rfl, rfl⟩)
    · obtain rfl : k = n := by omega
      have ha : l.all fineC = true := by rw [HD.out, List.drop_eq_nil_of_le (by rw [HL.out]; exact Nat.le_refl _)]; rfl
      have hr : fineL l = decide (k ≤ 512) := by unfold fineL; rw [ha, HL.out]; rfl
      have HR := Lib.hid hr
      clear ha hr
      go_wp2
      go_ret
      refine ⟨?_, rfl⟩
      show Ending.returned (.bool (decide ((k : Int) ≤ 512))) = _
      rw [HR.out, show decide ((k : Int) ≤ 512) = decide (k ≤ 512) from decide_eq_decide.2 (by omega)]
/-- The closure of Lines: a blank. -/
def blankN (r : Nat) : Bool := r == 32 || r == 9 || r == 13
theorem lines1_calls (r : Nat) (W : World) : Calls Try.prog 50 #[.int .i32 (r : Int)] W fun e w' => e = .returned (.bool (blankN r)) ∧ w' = W := by
  rcases (show r = 32 ∨ r = 9 ∨ r = 13 ∨ (r ≠ 32 ∧ r ≠ 9 ∧ r ≠ 13) by omega) with rfl | rfl | rfl | ⟨h1, h2, h3⟩
  · go_enter Try.func50, Try.ntmps50
    go_wp2
    go_ret
    exact ⟨rfl, rfl⟩
  · go_enter Try.func50, Try.ntmps50
    go_wp2
    go_ret
    exact ⟨rfl, rfl⟩
  · go_enter Try.func50, Try.ntmps50
    go_wp2
    go_ret
    exact ⟨rfl, rfl⟩
  · have g1 : ((r : Int) == 32) = false := by simp; omega
    have g2 : ((r : Int) == 9) = false := by simp; omega
    have g3 : ((r : Int) == 13) = false := by simp; omega
    have hr : blankN r = false := by simp [blankN, h1, h2, h3]
    have HR := Lib.hid hr
    clear hr h1 h2 h3
    go_enter Try.func50, Try.ntmps50
    go_wp2
    go_ret
    exact ⟨by rw [HR.out]; rfl, rfl⟩
theorem rblank_calls (x : UInt8) (W : World) : Calls Try.prog 72 #[.int .u8 (x.toNat : Int)] W fun e w' => e = .returned (.bool (blankN x.toNat)) ∧ w' = W := by
  obtain ⟨r, hr0⟩ : ∃ r, x.toNat = r := ⟨_, rfl⟩
  rw [hr0]
  clear hr0
  rcases (show r = 32 ∨ r = 9 ∨ r = 13 ∨ (r ≠ 32 ∧ r ≠ 9 ∧ r ≠ 13) by omega) with rfl | rfl | rfl | ⟨h1, h2, h3⟩
  · go_enter Try.func72, Try.ntmps72
    go_wp2
    go_ret
    exact ⟨rfl, rfl⟩
  · go_enter Try.func72, Try.ntmps72
    go_wp2
    go_ret
    exact ⟨rfl, rfl⟩
  · go_enter Try.func72, Try.ntmps72
    go_wp2
    go_ret
    exact ⟨rfl, rfl⟩
  · have g1 : ((r : Int) == 32) = false := by simp; omega
    have g2 : ((r : Int) == 9) = false := by simp; omega
    have g3 : ((r : Int) == 13) = false := by simp; omega
    have hr : blankN r = false := by simp [blankN, h1, h2, h3]
    have HR := Lib.hid hr
    clear hr h1 h2 h3
    go_enter Try.func72, Try.ntmps72
    go_wp2
    go_ret
    exact ⟨by rw [HR.out]; rfl, rfl⟩
abbrev sV (l : List UInt8) : Value := .string ⟨l.toArray⟩
structure One where
  acc : List (List UInt8)
  word : List UInt8
  rest : Bool
def badN (x : Nat) : Bool := (decide (x < 32) && !blankN x) || decide (127 ≤ x)
def oneStep (s : One) (x : UInt8) : Option One :=
  if badN x.toNat then none else
  if s.rest || x.toNat == 35 then some ⟨s.acc, s.word, true⟩ else
  if blankN x.toNat then some ⟨if s.word = [] then s.acc else s.acc ++ [s.word], [], false⟩ else some ⟨s.acc, s.word ++ [x], false⟩
def oneRun : List UInt8 → One → Option One
  | [], s => some s
  | x :: l, s => match oneStep s x with
    | none => none
    | some s => oneRun l s
def oneEnd : Option One → List (List UInt8)
  | none => []
  | some s => if s.word = [] then s.acc else s.acc ++ [s.word]
def oneL (l : List UInt8) : List (List UInt8) := if 512 < l.length then [] else oneEnd (oneRun l ⟨[], [], false⟩)
theorem str_snoc (l : List UInt8) (x : UInt8) : (ByteArray.mk l.toArray ++ ByteArray.mk #[x]) = ByteArray.mk (l ++ [x]).toArray := by
  apply ByteArray.ext
  simp
theorem info_str : (Try.prog.info? 9).map (fun i => (i.zero, i.size, i.bytes)) = some (some (.string ⟨#[]⟩), 1, 16) := by kernel_rfl
theorem drop_get (l : List UInt8) (k : Nat) (h : k < l.length) : l.drop k = l.getD k 0 :: l.drop (k + 1) := by
  rw [List.drop_eq_getElem_cons h]
  simp [List.getD, h]
set_option maxRecDepth 100000 in
set_option maxHeartbeats 4000000 in
theorem one_calls (b o n c : Nat) (l : List UInt8) (W : World) (hl : l.length = n) (h5 : n ≤ 512) (hbB : b < W.heap.size) (hc : ∀ j, j < n → W.cell? ⟨b, o + j, none⟩ = some (.int .u8 ((l.getD j 0).toNat : Int))) :
    Calls Try.prog 51 #[.slice (some ⟨b, o, none⟩) n c] W fun e w' => ∃ v, e = .returned v ∧ w'.ownsRow W.heap.size 9 1 v (oneL l).length ((oneL l).map sV) ∧ Below W.heap.size W w' := by
  have HL := Lib.hid hl
  have HC := Lib.hid hc
  have HO : Hid (oneL l = oneEnd (oneRun l ⟨[], [], false⟩)) := Lib.hid (by unfold oneL; rw [if_neg (by omega)])
  clear hc hl
  obtain ⟨i0, hi, hz0, hz1, hz2⟩ := info_parts info_str
  go_enter Try.func51, Try.ntmps51
  go_wp2
  go_loopw [3, 4, 5, 6] (fun lv wv rv iv wr => ∃ (k : Nat) (s : One), k ≤ n ∧ iv = .int .i64 k ∧ rv = .bool s.rest ∧ wv = sV s.word ∧ wr.ownsRow W.heap.size 9 1 lv s.acc.length (s.acc.map sV) ∧ Below W.heap.size W wr ∧ oneRun l ⟨[], [], false⟩ = oneRun (l.drop k) s ∧ s.acc.length ≤ k ∧ s.word.length ≤ k)
    (fun _ _ _ i _ => n - (intOf i).toNat)
  case atStart => exact ⟨0, ⟨[], [], false⟩, Nat.zero_le _, rfl, rfl, rfl, World.ownsRow_nil _ _ _ _, Below.refl _ _, rfl, Nat.le_refl _, Nat.le_refl _⟩
  case round =>
    obtain ⟨k, ⟨acc, word, rest⟩, hk, rfl, rfl, rfl, hown, hbel, hd, hacc, hword⟩ := hrel
    simp only at hown hacc hword
    have HD := Lib.hid hd
    have HB := Lib.hid hbel
    clear hd hbel
    by_cases hlt : k < n
    · obtain ⟨x, hx⟩ : ∃ x, l.getD k 0 = x := ⟨_, rfl⟩
      have hcell := (HB.out.cell (p := ⟨b, o + k, none⟩) hbB).trans (HC.out k hlt)
      have hdr := drop_get l k (by rw [HL.out]; exact hlt)
      rw [hx] at hcell hdr
      have HDR := Lib.hid hdr
      clear hx hdr
      have hx255 : x.toNat < 256 := x.toNat_lt
      cases hbad : badN x.toNat
      · have hx127 : x.toNat < 127 := by
          unfold badN at hbad
          simp at hbad
          omega
        have hxb : 32 ≤ x.toNat ∨ blankN x.toNat = true := by
          unfold badN at hbad
          rcases (show x.toNat < 32 ∨ 32 ≤ x.toNat by omega) with h | h
          · right
            simp [h] at hbad
            exact hbad.1
          · exact .inl h
        have HBD := Lib.hid hbad
        clear hbad
        cases hrest : rest
        · rcases (show x.toNat = 35 ∨ x.toNat ≠ 35 by omega) with h35 | h35
          · have hn : oneRun l ⟨[], [], false⟩ = oneRun (l.drop (k + 1)) ⟨acc, word, true⟩ := by
              have b35 : (x.toNat == 35) = true := by simp [h35]
              rw [HD.out, HDR.out]; simp only [oneRun, oneStep, HBD.out, b35, Bool.or_true, if_true, Bool.false_eq_true, if_false]
            have HN := Lib.hid hn
            clear hn hxb
            rw [h35] at hcell
            go_wp2
            go_roundw
            case rel => exact ⟨k + 1, ⟨acc, word, true⟩, by omega, by go_num, rfl, rfl, hown, HB.out, HN.out, by simp only; omega, by simp only; omega⟩
            case measure => simp [intOf]; omega
          · have g35 : ((x.toNat : Int) == 35) = false := by simp; omega
            have b35 : (x.toNat == 35) = false := by simp; omega
            cases hbl : blankN x.toNat
            · have hx32 : 32 ≤ x.toNat := by
                rcases hxb with h | h
                · exact h
                · rw [hbl] at h; cases h
              have hn : oneRun l ⟨[], [], false⟩ = oneRun (l.drop (k + 1)) ⟨acc, word ++ [x], false⟩ := by
                rw [HD.out, HDR.out]; simp [oneRun, oneStep, HBD.out, hrest, b35, hbl]
              have HN := Lib.hid hn
              have hcl : ∀ W, Calls Try.prog 72 #[.int .u8 (x.toNat : Int)] W fun e w' => e = .returned (.bool false) ∧ W = w' := fun W => by have := rblank_calls x W; rw [hbl] at this; exact this.mono fun e w' h => ⟨h.1, h.2.symm⟩
              have HCL := Lib.hid hcl
              have hcv : (convert 22 9 (.slice (some ⟨wr.heap.size, 0, none⟩) 1 1)).run Try.prog (wr.alloc (.cells #[.int .u8 (x.toNat : Int)] 5)) = .ok (.string ⟨#[x]⟩) (wr.alloc (.cells #[.int .u8 (x.toNat : Int)] 5)) := run_convert_bytes_back (P := Try.prog) (wr.alloc (.cells #[.int .u8 (x.toNat : Int)] 5)) 22 9 5 ⟨wr.heap.size, 0, none⟩ 1 [x] Try.underlying22 Try.underlying5 Try.underlying9 (fun j hj => by
                obtain rfl : j = 0 := by simpa using hj
                exact World.cell?_alloc_mark wr _ _ _ 0)
              clear hn hxb hbl hcl b35
              go_wp2_with (first | (go_at_call 72; refine (HCL.out _).mono ?_; rintro e w2 ⟨rfl, rfl⟩) | go_in)
              refine ⟨⟨k + 1, ⟨acc, word ++ [x], false⟩, by omega, by go_num, rfl, congrArg Value.string (str_snoc word x), hown.alloc _, HB.out.alloc HB.out.size _, HN.out, by simp only; omega, by simp only [List.length_append, List.length_cons, List.length_nil]; omega⟩, by simp [intOf]; omega⟩
            · have hcl : ∀ W, Calls Try.prog 72 #[.int .u8 (x.toNat : Int)] W fun e w' => e = .returned (.bool true) ∧ W = w' := fun W => by have := rblank_calls x W; rw [hbl] at this; exact this.mono fun e w' h => ⟨h.1, h.2.symm⟩
              have HCL := Lib.hid hcl
              have HBL := Lib.hid hbl
              clear hbl hcl
              cases hw : word with
              | nil =>
                have hn : oneRun l ⟨[], [], false⟩ = oneRun (l.drop (k + 1)) ⟨acc, [], false⟩ := by
                  rw [HD.out, HDR.out]; simp [oneRun, oneStep, HBD.out, hrest, b35, HBL.out, hw]
                have HN := Lib.hid hn
                clear hn b35
                rcases (show x.toNat < 32 ∨ 32 ≤ x.toNat by omega) with hx32 | hx32
                all_goals (
                  go_wp2_with (first | (go_at_call 72; refine (HCL.out _).mono ?_; rintro e w2 ⟨rfl, rfl⟩) | go_in)
                  go_roundw
                  case rel => exact ⟨k + 1, ⟨acc, [], false⟩, by omega, by go_num, rfl, rfl, hown, HB.out, HN.out, by simp only; omega, by simp only [List.length_nil]; omega⟩
                  case measure => simp [intOf]; omega)
              | cons y t =>
                have hn : oneRun l ⟨[], [], false⟩ = oneRun (l.drop (k + 1)) ⟨acc ++ [y :: t], [], false⟩ := by
                  rw [HD.out, HDR.out]; simp [oneRun, oneStep, HBD.out, hrest, b35, HBL.out, hw]
                have HN := Lib.hid hn
                clear hn b35
                rcases (show x.toNat < 32 ∨ 32 ≤ x.toNat by omega) with hx32 | hx32
                all_goals (
                  go_wp2_with (first
                    | (go_at_call 72; refine (HCL.out _).mono ?_; rintro e w2 ⟨rfl, rfl⟩)
                    | (at_builtin; refine wpList_append_own _ rfl _ _ 29 rfl W.heap.size 9 i0 (.string ⟨#[]⟩) 1 16 Try.underlying29 hi hz0 hz1 hz2 rfl (by decide) _ _ _ rfl (hown.alloc _) ⟨wr.heap.size, 0, none⟩ 1 1 [sV (y :: t)] rfl rfl ?c1 ?c2 ?c3 ?c4 ?c5 ?_)
                    | go_in)
                  case c1 =>
                    intro j u hj
                    match j, hj with
                    | 0, hj => simp at hj; subst hj; exact World.cell?_alloc_mark wr _ _ _ 0
                  case c2 => intro u hu; simp at hu; subst hu; rfl
                  case c3 => unfold maxLen; omega
                  case c4 => omega
                  case c5 => exact Nat.le_trans HB.out.size (by show wr.heap.size ≤ (wr.heap.push _).size; simp)
                  intro v' w1 hown' hgrow _
                  have hlt' := hown.lt
                  have HO' := Lib.hid hown'
                  have HG := Lib.hid hgrow
                  have HLT := Lib.hid hlt'
                  clear hown' hgrow hlt' hown
                  go_wp2
                  go_roundw
                  case rel =>
                    refine ⟨k + 1, ⟨acc ++ [y :: t], [], false⟩, by omega, by go_num, rfl, rfl, by simpa using HO'.out, ?_, HN.out, by simp only [List.length_append, List.length_cons, List.length_nil]; omega, by simp only [List.length_nil]; omega⟩
                    exact (HB.out.alloc HB.out.size _).grown HG.out (Nat.le_trans HB.out.size (by show wr.heap.size ≤ (wr.heap.push _).size; simp)) (fun q hq => (HLT.out q hq).1)
                  case measure => simp [intOf]; omega)
        · have hn : oneRun l ⟨[], [], false⟩ = oneRun (l.drop (k + 1)) ⟨acc, word, true⟩ := by
            rw [HD.out, HDR.out]; simp [oneRun, oneStep, HBD.out, hrest]
          have HN := Lib.hid hn
          clear hn
          rcases (show x.toNat < 32 ∨ 32 ≤ x.toNat by omega) with hx32 | hx32
          · have hbl : blankN x.toNat = true := by
              rcases hxb with h | h
              · omega
              · exact h
            have hcl : ∀ W, Calls Try.prog 72 #[.int .u8 (x.toNat : Int)] W fun e w' => e = .returned (.bool true) ∧ W = w' := fun W => by have := rblank_calls x W; rw [hbl] at this; exact this.mono fun e w' h => ⟨h.1, h.2.symm⟩
            have HCL := Lib.hid hcl
            clear hbl hcl hxb
            go_wp2_with (first | (go_at_call 72; refine (HCL.out _).mono ?_; rintro e w2 ⟨rfl, rfl⟩) | go_in)
            go_roundw
            case rel => exact ⟨k + 1, ⟨acc, word, true⟩, by omega, by go_num, rfl, rfl, hown, HB.out, HN.out, by simp only; omega, by simp only; omega⟩
            case measure => simp [intOf]; omega
          · clear hxb
            go_wp2
            go_roundw
            case rel => exact ⟨k + 1, ⟨acc, word, true⟩, by omega, by go_num, rfl, rfl, hown, HB.out, HN.out, by simp only; omega, by simp only; omega⟩
            case measure => simp [intOf]; omega
      · have hr : oneL l = [] := by rw [HO.out, HD.out, HDR.out]; simp [oneRun, oneStep, hbad, oneEnd]
        have HR := Lib.hid hr
        have HBD := Lib.hid hbad
        clear hr hbad
        rcases (show x.toNat < 32 ∨ (32 ≤ x.toNat ∧ x.toNat < 127) ∨ 127 ≤ x.toNat by omega) with h | ⟨h1, h2⟩ | h
        · have hbl : blankN x.toNat = false := by
            have := HBD.out
            unfold badN at this
            have e : ¬ 127 ≤ x.toNat := by omega
            simpa [h, e] using this
          have hcl : ∀ W, Calls Try.prog 72 #[.int .u8 (x.toNat : Int)] W fun e w' => e = .returned (.bool false) ∧ W = w' := fun W => by have := rblank_calls x W; rw [hbl] at this; exact this.mono fun e w' h => ⟨h.1, h.2.symm⟩
          have HCL := Lib.hid hcl
          clear hbl hcl
          go_wp2_with (go_at_call 72; refine (HCL.out _).mono ?_; rintro e w2 ⟨rfl, rfl⟩)
          go_ret
          rw [HR.out]
          exact ⟨_, rfl, World.ownsRow_nil _ _ _ _, HB.out⟩
        · exfalso
          have := HBD.out
          unfold badN at this
          have e1 : ¬ x.toNat < 32 := by omega
          have e2 : ¬ 127 ≤ x.toNat := by omega
          simp [e1, e2] at this
        · go_wp2
          go_ret
          rw [HR.out]
          exact ⟨_, rfl, World.ownsRow_nil _ _ _ _, HB.out⟩
    · obtain rfl : k = n := by omega
      have hz : oneRun l ⟨[], [], false⟩ = some ⟨acc, word, rest⟩ := by
        rw [HD.out, List.drop_eq_nil_of_le (by rw [HL.out]; exact Nat.le_refl _)]; rfl
      cases hw : word with
      | nil =>
        have hr : oneL l = acc := by rw [HO.out, hz, hw]; rfl
        have HR := Lib.hid hr
        clear hr hz
        go_wp2
        go_ret
        rw [HR.out]
        exact ⟨_, rfl, hown, HB.out⟩
      | cons y t =>
        have hr : oneL l = acc ++ [y :: t] := by rw [HO.out, hz, hw]; rfl
        have HR := Lib.hid hr
        clear hr hz
        go_wp2_with (first
          | (at_builtin; refine wpList_append_own _ rfl _ _ 29 rfl W.heap.size 9 i0 (.string ⟨#[]⟩) 1 16 Try.underlying29 hi hz0 hz1 hz2 rfl (by decide) _ _ _ rfl (hown.alloc _) ⟨wr.heap.size, 0, none⟩ 1 1 [sV (y :: t)] rfl rfl ?c1 ?c2 ?c3 ?c4 ?c5 ?_)
          | go_in)
        case c1 =>
          intro j u hj
          match j, hj with
          | 0, hj => simp at hj; subst hj; exact World.cell?_alloc_mark wr _ _ _ 0
        case c2 => intro u hu; simp at hu; subst hu; rfl
        case c3 => unfold maxLen; omega
        case c4 => omega
        case c5 => exact Nat.le_trans HB.out.size (by show wr.heap.size ≤ (wr.heap.push _).size; simp)
        intro v' w1 hown' hgrow _
        have hlt' := hown.lt
        have HO' := Lib.hid hown'
        have HG := Lib.hid hgrow
        have HLT := Lib.hid hlt'
        clear hown' hgrow hlt' hown
        go_wp2
        go_ret
        rw [HR.out]
        exact ⟨_, rfl, by simpa using HO'.out, (HB.out.alloc HB.out.size _).grown HG.out (Nat.le_trans HB.out.size (by show wr.heap.size ≤ (wr.heap.push _).size; simp)) (fun q hq => (HLT.out q hq).1)⟩

set_option maxRecDepth 100000 in
theorem one_any (ad : Option Addr) (n c : Nat) (l : List UInt8) (W : World) (hl : l.length = n) (hb : n ≤ 140737488351232) (hB : ∀ a, ad = some a → a.block < W.heap.size) (hc : BytesAt W ad l) :
    Calls Try.prog 51 #[.slice ad n c] W fun e w' => ∃ v, e = .returned v ∧ w'.ownsRow W.heap.size 9 1 v (oneL l).length ((oneL l).map sV) ∧ Below W.heap.size W w' := by
  by_cases h5 : n ≤ 512
  · rcases hc with h0 | ⟨b, o, rfl, hc⟩
    · have hn : n = 0 := by rw [← hl, h0]; rfl
      have hr : oneL l = [] := by rw [h0]; rfl
      rw [hr]
      clear hr hl h0
      subst hn
      go_enter Try.func51, Try.ntmps51
      go_wp2
      refine wp_loop_rounds 1 ?_
      rw [rounds_succ]
      go_wp2
      go_ret
      exact ⟨_, rfl, World.ownsRow_nil _ _ _ _, Below.refl _ _⟩
    · exact one_calls b o n c l W hl h5 (hB _ rfl) (fun j hj => hc j (by rw [hl]; exact hj))
  · have hr : oneL l = [] := by unfold oneL; rw [if_pos (by omega)]
    rw [hr]
    clear hr hl hc
    go_enter Try.func51, Try.ntmps51
    go_wp2
    go_ret
    exact ⟨_, rfl, World.ownsRow_nil _ _ _ _, Below.refl _ _⟩
end Go.Proofs.Ytdbnfaeanngajaa.tl
