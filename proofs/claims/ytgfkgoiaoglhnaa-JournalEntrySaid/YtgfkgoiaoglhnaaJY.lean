/- The writer of records: what it holds, in plain words; list. -/
import Derived.Test.YtgfkgoiaoglhnaaProg
import Derived.WalkKit
import Derived.ProofKit
import Derived.Lib.Hide
import Derived.WalkLawsBesides
import Derived.WalkSpells
import Derived.Deep.RegionWith
import Derived.Deep.DeepCutAuto
import Derived.Deep.CutBlock
import Derived.Test.YtgfkgoiaoglhnaaJX
namespace Go.Proofs.Ytgfkgoiaoglhnaa.jr
open Go Go.RowKit
set_option linter.unusedVariables false
set_option linter.unusedSimpArgs false
/-- What a writer holds. -/
structure Wr where
  b : List UInt8
  L : Nat
  bad : Bool
def wText (w : Wr) (s : ByteArray) : Wr := ⟨w.b ++ leB s.size 2 ++ s.data.toList, w.L + s.size, w.bad || decide (300 < s.size) || decide (6000 < w.L + s.size)⟩
def wNum (w : Wr) (x : Int) : Wr := ⟨w.b ++ leB (x % 18446744073709551616).toNat 8, w.L, w.bad || decide (x < 0)⟩
def wCount (w : Wr) (n : Nat) : Wr := ⟨w.b ++ [UInt8.ofNat n], w.L, w.bad || decide (64 < n)⟩
def wList (w : Wr) (X : List ByteArray) : Wr := (X.take 64).foldl wText (wCount w X.length)
theorem size_list (s : ByteArray) : s.data.toList.length = s.size := by simp
theorem wText_len (w : Wr) (s : ByteArray) : (wText w s).b.length = w.b.length + 2 + s.size := by
  simp only [wText, List.length_append, leB_len, size_list]
theorem wNum_len (w : Wr) (x : Int) : (wNum w x).b.length = w.b.length + 8 := by simp [wNum, leB_len]
theorem wCount_len (w : Wr) (n : Nat) : (wCount w n).b.length = w.b.length + 1 := by simp [wCount]
def WS (W : World) (B k : Nat) (w : Wr) : Prop := WAt W B k w.b w.b.length (w.L : Int) w.bad
theorem WS.of {W : World} {B k n : Nat} {w : Wr} {b : List UInt8} {L : Int} {bad : Bool} (h : WAt W B k b n L bad) (h1 : b = w.b) (h2 : n = w.b.length) (h3 : L = (w.L : Int)) (h4 : bad = w.bad) : WS W B k w := by
  subst h1 h2 h3 h4; exact h
theorem text_ws (W W0 : World) (k : Nat) (w : Wr) (s : ByteArray) (hs : s.size ≤ 1000) (hL : w.L ≤ 900000) (hl : w.b.length ≤ 900000) (hb : Below W0.heap.size W0 W) (h : WS W W0.heap.size k w) :
    Calls Try.prog 55 #[.pointer (some ⟨k, 0, none⟩), .string s] W fun e w' => e = .returned (.tuple #[]) ∧ WS w' W0.heap.size k (wText w s) ∧ Below W0.heap.size W0 w' ∧ KW k W w' :=
  (wtext_calls W W0 k w.b w.b.length w.L s w.bad hs hL rfl hl hb h).mono fun e w' ⟨h1, h2, h3, h4⟩ => ⟨h1, WS.of h2 rfl (wText_len w s).symm rfl rfl, h3, h4⟩
theorem num_ws (W W0 : World) (k : Nat) (w : Wr) (x : Int) (hx : -9223372036854775808 ≤ x ∧ x ≤ 9223372036854775807) (hl : w.b.length ≤ 900000) (hb : Below W0.heap.size W0 W) (h : WS W W0.heap.size k w) :
    Calls Try.prog 56 #[.pointer (some ⟨k, 0, none⟩), .int .i64 x] W fun e w' => e = .returned (.tuple #[]) ∧ WS w' W0.heap.size k (wNum w x) ∧ Below W0.heap.size W0 w' ∧ KW k W w' :=
  (wnum_calls W W0 k w.b w.b.length (w.L : Int) x w.bad hx rfl hl hb h).mono fun e w' ⟨h1, h2, h3, h4⟩ => ⟨h1, WS.of h2 rfl (wNum_len w x).symm rfl rfl, h3, h4⟩
theorem count_ws (W W0 : World) (k : Nat) (w : Wr) (x : Nat) (hx : x ≤ 9223372036854775807) (hl : w.b.length ≤ 900000) (hb : Below W0.heap.size W0 W) (h : WS W W0.heap.size k w) :
    Calls Try.prog 58 #[.pointer (some ⟨k, 0, none⟩), .int .i64 (x : Int)] W fun e w' => e = .returned (.tuple #[]) ∧ WS w' W0.heap.size k (wCount w x) ∧ Below W0.heap.size W0 w' ∧ KW k W w' :=
  (wcount_calls W W0 k w.b w.b.length (w.L : Int) x w.bad hx rfl hl hb h).mono fun e w' ⟨h1, h2, h3, h4⟩ => ⟨h1, WS.of h2 rfl (wCount_len w x).symm rfl rfl, h3, h4⟩
/-- Texts that came in. -/
def TextsIn (W : World) (ad : Option Addr) (X : List ByteArray) : Prop := X = [] ∨ ∃ b o, ad = some ⟨b, o, none⟩ ∧ ∀ k (h : k < X.length), W.cell? ⟨b, o + k, none⟩ = some (.string X[k])
theorem TextsIn.below {W w : World} {ad : Option Addr} {X : List ByteArray} (h : TextsIn W ad X) (hb : Below W.heap.size W w) : TextsIn w ad X := by
  rcases h with h | ⟨b, o, h1, h2⟩
  · exact .inl h
  · exact .inr ⟨b, o, h1, fun k hk => (hb.cell (p := ⟨b, o + k, none⟩) (World.block_lt_of_cell? W _ (h2 k hk))).trans (h2 k hk)⟩
def lst (w : Wr) (X : List ByteArray) (j : Nat) : Wr := (X.take j).foldl wText (wCount w X.length)
theorem lst_succ (w : Wr) (X : List ByteArray) (j : Nat) (h : j < X.length) : lst w X (j + 1) = wText (lst w X j) X[j] := by
  unfold lst
  rw [List.take_succ_eq_append_getElem h, List.foldl_append]
  rfl
theorem lst_bound (w : Wr) (X : List ByteArray) (hX : ∀ s ∈ X, s.size ≤ 1000) : ∀ j, j ≤ X.length → (lst w X j).b.length ≤ w.b.length + 1 + 1002 * j ∧ (lst w X j).L ≤ w.L + 1000 * j
  | 0, _ => by simp [lst, wCount]
  | j + 1, h => by
    have ih := lst_bound w X hX j (by omega)
    have hs := hX _ (List.getElem_mem (show j < X.length by omega))
    rw [lst_succ w X j (by omega), wText_len]
    constructor
    · omega
    · show (lst w X j).L + _ ≤ _
      omega
set_option maxRecDepth 100000 in
set_option maxHeartbeats 4000000 in
theorem list_ws (W W0 : World) (k n c : Nat) (ad : Option Addr) (w : Wr) (X : List ByteArray) (hn : X.length = n) (hn1 : n ≤ 100000) (hc : n ≤ c) (hX : ∀ s ∈ X, s.size ≤ 1000) (hin : TextsIn W0 ad X) (hL : w.L ≤ 500000) (hl : w.b.length ≤ 500000) (hb : Below W0.heap.size W0 W) (h : WS W W0.heap.size k w) :
    Calls Try.prog 57 #[.pointer (some ⟨k, 0, none⟩), .slice ad n c] W fun e w' => e = .returned (.tuple #[]) ∧ WS w' W0.heap.size k (wList w X) ∧ Below W0.heap.size W0 w' ∧ KW k W w' := by
  have H := Lib.hid h
  have HB := Lib.hid hb
  have HIN := Lib.hid hin
  have HN := Lib.hid hn
  have HX := Lib.hid hX
  obtain ⟨m, hm⟩ : ∃ m, min n 64 = m := ⟨_, rfl⟩
  have hm1 : m ≤ n ∧ m ≤ 64 := by omega
  have hm3 : min (n : Int) 64 = (m : Int) := by omega
  have hR : wList w X = lst w X m := by
    unfold wList lst
    rcases (show m = 64 ∨ (m = n ∧ n ≤ 64) by omega) with h | ⟨h, h'⟩
    · rw [h]
    · rw [List.take_of_length_le (by omega), List.take_of_length_le (by omega)]
  have HR := Lib.hid hR
  clear h hb hin hn hX hm hR
  have hst : ∀ w1, WS w1 W0.heap.size k (wCount w n) → WS w1 W0.heap.size k (lst w X 0) := by
    intro w1 h
    have : lst w X 0 = wCount w n := by simp [lst, HN.out]
    rw [this]
    exact h
  have START := Lib.hid hst
  clear hst
  have hcm : m ≤ c := by omega
  go_enter Try.func57, Try.ntmps57
  go_upto_region 1 with (first
    | (go_at_call 58; refine (count_ws _ W0 k w n (by omega) (by omega) HB.out H.out).mono ?_; rintro e w1 ⟨rfl, h1, hb1, hk1⟩; have H1 := Lib.hid (START.out _ h1); have HB1 := Lib.hid hb1; have HK1 := Lib.hid hk1; clear h1 hb1 hk1)
    | fail)
  go_cut [14, 15, 16] (fun sv lv iv wx => sv = .slice ad m c ∧ lv = .int .i64 (m : Int) ∧ iv = .int .i64 0 ∧ wx = w1)
  case first =>
    have hmm : m = n ∧ n ≤ 64 ∨ m = 64 ∧ 64 < n := by omega
    rcases hmm with ⟨rfl, h64⟩ | ⟨rfl, h64⟩
    · go_wp2
      all_goals (go_meet; exact ⟨rfl, rfl, rfl, rfl⟩)
    · go_wp2
      all_goals (go_meet; exact ⟨rfl, rfl, rfl, rfl⟩)
  case rest =>
    obtain ⟨rfl, rfl, rfl, rfl⟩ := hcut
    go_wp2_with fail
    go_loopw [16] (fun iv wr => ∃ j : Nat, j ≤ m ∧ iv = .int .i64 (j : Int) ∧ WS wr W0.heap.size k (lst w X j) ∧ Below W0.heap.size W0 wr ∧ KW k W wr) (fun iv _ => m - (intOf iv).toNat)
    case atStart => exact ⟨0, Nat.zero_le _, rfl, H1.out, HB1.out, HK1.out⟩
    case round =>
      obtain ⟨j, hj, rfl, hw, hb, hkw⟩ := hrel
      have HKW := Lib.hid hkw
      clear hkw
      have HW := Lib.hid hw
      have HBW := Lib.hid hb
      clear hw hb
      rcases (show j < m ∨ j = m by omega) with hlt | rfl
      · have hjX : j < X.length := by rw [HN.out]; omega
        obtain ⟨b, o, rfl, hcl⟩ := HIN.out.resolve_left (by intro h0; rw [h0] at hjX; cases hjX)
        have e0 := (HBW.out.cell (p := ⟨b, o + j, none⟩) (World.block_lt_of_cell? W0 _ (hcl j hjX))).trans (hcl j hjX)
        have hs := HX.out _ (List.getElem_mem hjX)
        obtain ⟨hb1, hb2⟩ := lst_bound w X HX.out j (by omega)
        have hsu := lst_succ w X j hjX
        obtain ⟨s, hss⟩ : ∃ s, X[j] = s := ⟨_, rfl⟩
        rw [hss] at e0 hs hsu
        have HSU := Lib.hid hsu
        have HT := Lib.hid (text_ws wr W0 k (lst w X j) s hs (by omega) (by omega) HBW.out HW.out)
        clear hcl hsu hss hs hb1 hb2
        go_wp2_with (first
          | (go_at_call 55; refine HT.out.mono ?_; rintro e w2 ⟨rfl, h2, hb2, hk2⟩; have H2 := Lib.hid h2; have HB2 := Lib.hid hb2; have HK2 := Lib.hid hk2; clear h2 hb2 hk2)
          | fail)
        refine ⟨⟨j + 1, by omega, by go_num, by rw [HSU.out]; exact H2.out, HB2.out, HKW.out.trans HK2.out⟩, by simp [intOf]; omega⟩
      · go_wp2_with fail
        refine bodyPost_end (v := .tuple #[]) (by simp [results, show (Try.f57).results = #[] from rfl]) rfl ?_
        exact ⟨rfl, by rw [HR.out]; exact HW.out, HBW.out, HKW.out⟩
end Go.Proofs.Ytgfkgoiaoglhnaa.jr
