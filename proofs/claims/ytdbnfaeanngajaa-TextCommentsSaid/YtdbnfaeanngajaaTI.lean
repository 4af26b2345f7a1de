/- The walk of the law TextComments. -/
import Derived.Test.YtdbnfaeanngajaaProg
import Derived.WalkKit
import Derived.ProofKit
import Derived.Lib.Hide
import Derived.WalkLawsBesides
import Derived.WalkSpells
import Derived.Deep.RegionWith
import Derived.Deep.QuietTactic
import Derived.BigQuiet
import Derived.OpenShut
import Derived.ChangeMaps5
import Derived.Test.YtdbnfaeanngajaaTG
import Derived.Test.YtdbnfaeanngajaaTH
namespace Go.Proofs.Ytdbnfaeanngajaa.tl
open Go Go.RowKit Go.ChangeShapes Go.WideShapes
open Go.ChangeMaps (open_string)
set_option linter.unusedVariables false
set_option linter.unusedSimpArgs false
/-- So many words 'w', a blank ahead of each. -/
def sw : Nat → List UInt8
  | 0 => []
  | k + 1 => sw k ++ [32, 119]
theorem sw_len : ∀ k, (sw k).length = 2 * k
  | 0 => rfl
  | k + 1 => by rw [sw, List.length_append, sw_len k]; simp; omega
theorem sw_fine : ∀ k, (sw k).all (fun c => c == 32 || c == 119) = true
  | 0 => rfl
  | k + 1 => by rw [sw, List.all_append, sw_fine k]; rfl
theorem sw_words : ∀ (k : Nat) (r : List UInt8), wordsG (sw k ++ r) [] [] = wordsG r (List.replicate (k - 1) [119]) (if k = 0 then [] else [119])
  | 0, r => rfl
  | k + 1, r => by
    rw [sw, List.append_assoc, sw_words k]
    show wordsG (32 :: 119 :: r) _ _ = _
    rw [wordsG, if_pos (by decide), wordsG, if_neg (by decide)]
    rcases Nat.eq_zero_or_pos k with h | h
    · subst h; rfl
    · obtain ⟨k, rfl⟩ : ∃ j, k = j + 1 := ⟨k - 1, by omega⟩
      simp [List.replicate_succ']
theorem fields_sw (k : Nat) : fieldsW (sw k) = List.replicate k [119] := by
  rw [fields_words _ (by
    have := sw_fine k
    rw [List.all_eq_true] at this ⊢
    intro x hx
    have := this x hx
    simp at this
    rcases this with h | h <;> subst h <;> decide)]
  have := sw_words k []
  rw [List.append_nil] at this
  rw [this, wordsG]
  rcases Nat.eq_zero_or_pos k with h | h
  · subst h; rfl
  · obtain ⟨k, rfl⟩ : ∃ j, k = j + 1 := ⟨k - 1, by omega⟩
    simp [List.replicate_succ']
theorem upto_app (x : UInt8) : ∀ (a b : List UInt8), (∀ c ∈ a, c ≠ x) → upto x (a ++ x :: b) = a ∧ past x (a ++ x :: b) = b
  | [], b, _ => by simp [upto, past]
  | c :: a, b, h => by
    have hc : (c == x) = false := by simpa using h c (by simp)
    have ih := upto_app x a b (fun d hd => h d (by simp [hd]))
    constructor
    · show (if c == x then [] else c :: upto x (a ++ x :: b)) = _
      rw [hc, ih.1]; rfl
    · show (if c == x then a ++ x :: b else past x (a ++ x :: b)) = _
      rw [hc, ih.2]; rfl
/-- The text of the law, and its lines. -/
def txt (k : Nat) (m : List UInt8) : List UInt8 := sw k ++ 35 :: (m ++ [10, 120])
def okM (m : List UInt8) : Prop := ∀ c ∈ m, 32 ≤ c.toNat ∧ c.toNat ≤ 126
theorem txt_lines (k : Nat) (m : List UInt8) (hk : k ≤ 10) (hm : m.length ≤ 50) (hok : okM m) (n : Nat) (hn : (txt k m).length ≤ n) : linesF n 1 (txt k m) = (if k = 0 then [] else [(1, List.replicate k [119])]) ++ [(2, [[120]])] := by
  have hsw : ∀ c ∈ sw k, c = 32 ∨ c = 119 := fun c hc => by
    have := List.all_eq_true.1 (sw_fine k) c hc
    simpa using this
  have hln : (sw k ++ 35 :: m).length = 2 * k + 1 + m.length := by simp [sw_len]; omega
  have e0 : txt k m = (sw k ++ 35 :: m) ++ 10 :: [120] := by simp [txt]
  have hmem : ∀ c ∈ sw k ++ 35 :: m, c ≠ 10 ∧ fineC c = true := by
    intro c hc
    rw [List.mem_append, List.mem_cons] at hc
    rcases hc with h | h | h
    · rcases hsw c h with h | h <;> subst h <;> decide
    · subst h; decide
    · have := hok c h
      refine ⟨fun e => by subst e; simp at this, ?_⟩
      unfold fineC
      simp
      omega
  obtain ⟨u1, u2⟩ := upto_app 10 (sw k ++ 35 :: m) [120] (fun c hc => (hmem c hc).1)
  obtain ⟨u3, _⟩ := upto_app 35 (sw k) m (fun c hc => by rcases hsw c hc with h | h <;> subst h <;> decide)
  have hf : fineL (sw k ++ 35 :: m) = true := by
    unfold fineL
    rw [Bool.and_eq_true]
    exact ⟨List.all_eq_true.2 fun c hc => (hmem c hc).2, by simp only [decide_eq_true_eq]; omega⟩
  have hlen : (txt k m).length = 2 * k + m.length + 3 := by rw [e0]; simp [sw_len]; omega
  obtain ⟨n, rfl⟩ : ∃ j, n = j + 2 := ⟨n - 2, by omega⟩
  rw [linesF, if_neg (by rw [e0]; simp), e0, u2, lineF, u1, u3, hf, fields_sw, List.length_replicate]
  have e2 : linesF (n + 1) (1 + 1) [120] = [(2, [[120]])] := by
    rw [linesF, if_neg (by simp)]
    have ep : past 10 [120] = [] := by decide
    have eu : upto 35 (upto 10 [120]) = [120] := by decide
    have ef : fieldsW [120] = [[120]] := by rw [fields_words _ (by decide)]; decide
    rw [ep, linesF_nil, lineF, eu, ef, if_pos ⟨by decide, by decide⟩]
    rfl
  rw [e2]
  congr 1
  rcases Nat.eq_zero_or_pos k with h | h
  · subst h; rfl
  · rw [if_pos ⟨rfl, by omega⟩, if_neg (by omega)]
theorem str_two (l : List UInt8) (x y : UInt8) : (ByteArray.mk l.toArray ++ ByteArray.mk #[x, y]) = ByteArray.mk (l ++ [x, y]).toArray := by
  apply ByteArray.ext
  simp
theorem txt_bytes (k : Nat) (a : ByteArray) : (((ByteArray.mk (sw k).toArray ++ ByteArray.mk #[35]) ++ a) ++ ByteArray.mk #[10, 120]).data.toList = txt k a.data.toList := by
  simp [txt]
theorem txt_size (k : Nat) (a : ByteArray) : (((ByteArray.mk (sw k).toArray ++ ByteArray.mk #[35]) ++ a) ++ ByteArray.mk #[10, 120]).size = (sw k).length + 1 + a.size + 2 := by
  rw [ByteArray.size_append, ByteArray.size_append, ByteArray.size_append]
  rfl
def SwRel (k : Nat) (sv iv : Value) : Prop := ∃ j : Nat, j ≤ k ∧ iv = .int .i64 j ∧ sv = sV (sw j)
/-- Lines of bytes that a text was turned into. -/
theorem lines_conv (w : World) (s : ByteArray) (n : Nat) (l : List UInt8) (hs : s.data.toList = l) (hz : s.size = n) (hn : l.length ≤ 1000000) :
    Calls Try.prog 14 #[.slice (some ⟨w.heap.size, 0, none⟩) n (grownCap w n 0 5)] (w.alloc (.cells (bytesRow s (grownCap w n 0 5)) 5 ((bytesRow s (grownCap w n 0 5)).size, (bytesRow s (grownCap w n 0 5)).size + 1))).drew fun e w' => ∃ v xs w1, e = .returned v ∧ LinesAt w' w1 31 v xs ∧ xs.map key = linesF l.length 1 l ∧ Below w.heap.size w w' := by
  subst hs
  subst hz
  have hsz : s.size = s.data.toList.length := rfl
  have hb : Below w.heap.size w (w.alloc (.cells (bytesRow s (grownCap w s.size 0 5)) 5 ((bytesRow s (grownCap w s.size 0 5)).size, (bytesRow s (grownCap w s.size 0 5)).size + 1))).drew := ((Below.refl _ w).alloc (Nat.le_refl _) _).drew
  refine (lines_any (some ⟨w.heap.size, 0, none⟩) s.size (grownCap w s.size 0 5) s.data.toList _ rfl (by rw [hsz]; exact hn) (grownCap_ge w s.size 0 5) (RowM.bytes w s (grownCap w s.size 0 5) 5).drew.bytesAt).mono ?_
  rintro e w' ⟨v, xs, rfl, h1, h2, h3, h4⟩
  exact ⟨v, xs, _, rfl, h1, h3, hb.trans (h4.mono hb.size)⟩
theorem one_line {w : World} {B e no : Nat} {v : Value} {xs : List LV} {ws : List (List UInt8)} (h : LinesAt w B e v xs) (hk : xs.map key = [(no, ws)]) : ∃ g cp, v = .slice (some ⟨g, 0, none⟩) 1 cp ∧ w.cell? ⟨g, 0, none⟩ = some (.int .i64 (no : Int)) := by
  obtain ⟨x, rfl⟩ : ∃ x, xs = [x] := by
    rcases xs with _ | ⟨x, _ | ⟨y, l⟩⟩
    · simp at hk
    · exact ⟨x, rfl⟩
    · simp at hk
  obtain ⟨ad, cp, rfl, had⟩ := lines_shape h rfl
  obtain ⟨g, rfl⟩ := had.resolve_left (by simp)
  obtain ⟨a1, c1, e1, _, _⟩ := lines_at (k := 0) h rfl (by simp)
  simp [key] at hk
  refine ⟨g, cp, rfl, ?_⟩
  rw [Nat.zero_mul] at e1
  rw [e1]
  simp [hk.1]
theorem two_lines {w : World} {B e n1 n2 : Nat} {v : Value} {xs : List LV} {w1 w2 : List (List UInt8)} (h : LinesAt w B e v xs) (hk : xs.map key = [(n1, w1), (n2, w2)]) : ∃ g cp a1 c1, v = .slice (some ⟨g, 0, none⟩) 2 cp ∧ w.cell? ⟨g, 2, none⟩ = some (.int .i64 (n2 : Int)) ∧ w.cell? ⟨g, 1, none⟩ = some (.slice a1 w1.length c1) := by
  obtain ⟨x, y, rfl⟩ : ∃ x y, xs = [x, y] := by
    rcases xs with _ | ⟨x, _ | ⟨y, _ | ⟨z, l⟩⟩⟩
    · simp at hk
    · simp at hk
    · exact ⟨x, y, rfl⟩
    · simp at hk
  obtain ⟨ad, cp, rfl, had⟩ := lines_shape h rfl
  obtain ⟨g, rfl⟩ := had.resolve_left (by simp)
  obtain ⟨a1, c1, _, e2, _⟩ := lines_at (k := 0) h rfl (by simp)
  obtain ⟨a2, c2, e3, _, _⟩ := lines_at (k := 1) h rfl (by simp)
  simp [key] at hk
  refine ⟨g, cp, a1, c1, rfl, ?_, ?_⟩
  · rw [Nat.one_mul] at e3
    rw [e3]
    simp [hk.2.1]
  · rw [Nat.zero_mul, Nat.zero_add] at e2
    rw [e2]
    simp [hk.1.2]
set_option maxRecDepth 100000 in
set_option maxHeartbeats 4000000 in
theorem textcomments_walk {H : Type} {enc : TypeId × Value → H} (W : World) (base : Nat) (v0 : Value) (d0 : DataW H) (p0 : List MemPlace) (k0 : Value.okWide Try.prog W .any base 3 v0) (h0 : DataW.Trod enc Try.prog W 0 (fun _ => true) true 3 v0 d0 p0)
    (v1 : Value) (d1 : DataW H) (p1 : List MemPlace) (k1 : Value.okWide Try.prog W .any base 3 v1) (h1 : DataW.Trod enc Try.prog W 0 (fun _ => true) true 3 v1 d1 p1)
    (v2 : Value) (d2 : DataW H) (p2 : List MemPlace) (k2 : Value.okWide Try.prog W .any base 9 v2) (h2 : DataW.Trod enc Try.prog W 0 (fun _ => true) true 9 v2 d2 p2) :
    Calls Try.prog 5 #[v0, v1, v2] W fun e w' => e = .returned (.bool true) ∧ Below W.heap.size W w' := by
  obtain ⟨a, rfl, _, _, wa⟩ := open_int Try.underlying3 k0 h0
  obtain ⟨r, rfl, _, _, wr⟩ := open_int Try.underlying3 k1 h1
  obtain ⟨m, rfl, _, _, hm⟩ := open_string Try.underlying9 k2 h2
  clear k0 k1 k2 h0 h1 h2
  unfold maxLen at hm
  by_cases hg : 0 ≤ a ∧ a ≤ 10 ∧ 0 ≤ r ∧ r ≤ 50 ∧ m.size ≤ 50
  · obtain ⟨ha0, ha1, hr0, hr1, hm5⟩ := hg
    obtain ⟨k, rfl⟩ : ∃ k : Nat, a = k := ⟨a.toNat, by omega⟩
    have hk : k ≤ 10 := by omega
    obtain ⟨ml, hml⟩ : ∃ ml, m.data.toList = ml := ⟨_, rfl⟩
    have hmlen : ml.length = m.size := by rw [← hml]; rfl
    have HML := Lib.hid hml
    have HMLEN := Lib.hid hmlen
    clear wa wr hml hmlen
    have hcv := fun w s => run_bytes_of_string (P := Try.prog) w 9 22 5 s Try.underlying9 Try.underlying22 Try.underlying5
    go_enter Try.func5, Try.ntmps5
    go_wp2_with (first
      | (go_at_call 12; refine (bgtext.begun _).mono ?_; rintro e w1 ⟨rfl, hb1⟩; have HB1 := Lib.hid hb1; clear hb1)
      | fail)
    go_loop [8] (fun iv => ∃ j : Nat, j ≤ m.size ∧ iv = .int .i64 j ∧ okM (ml.take j)) (fun iv => m.size - (intOf iv).toNat)
    case atStart => exact ⟨0, Nat.zero_le _, rfl, fun c hc => by simp at hc⟩
    case round =>
      obtain ⟨j, hj, rfl, hok⟩ := hrel
      have HOK := Lib.hid hok
      clear hok
      by_cases hlt : j < m.size
      · obtain ⟨c, hc⟩ : ∃ c, m[j] = c := ⟨_, rfl⟩
        have hcl : ml[j]? = some c := by
          rw [← HML.out, ← hc]
          exact List.getElem?_eq_getElem (by simpa using hlt)
        have HCL := Lib.hid hcl
        clear hcl
        rcases (show c.toNat < 32 ∨ (32 ≤ c.toNat ∧ 126 < c.toNat) ∨ (32 ≤ c.toNat ∧ c.toNat ≤ 126) by omega) with h | ⟨h, h'⟩ | ⟨h, h'⟩
        · go_wp2
          go_ret
          exact ⟨rfl, HB1.out⟩
        · go_wp2
          go_ret
          exact ⟨rfl, HB1.out⟩
        · go_wp2
          go_round
          case rel =>
            refine ⟨j + 1, by omega, by go_num, fun x hx => ?_⟩
            rw [List.take_add_one, HCL.out] at hx
            simp only [Option.toList_some, List.mem_append, List.mem_singleton] at hx
            rcases hx with hx | rfl
            · exact HOK.out x hx
            · exact ⟨h, h'⟩
          case measure => simp [intOf]; omega
      · obtain rfl : j = m.size := by omega
        have hokm : okM ml := by
          have := HOK.out
          rwa [List.take_of_length_le (by rw [HMLEN.out]; exact Nat.le_refl _)] at this
        have HOKM := Lib.hid hokm
        clear hokm
        go_wp2
        go_loop [9, 10] (fun sv iv => SwRel k sv iv) (fun _ iv => k - (intOf iv).toNat)
        case atStart => exact ⟨0, Nat.zero_le _, rfl, rfl⟩
        case round =>
          obtain ⟨j, hj, rfl, rfl⟩ := hrel
          have hsl : (sw j).length ≤ 20 := by rw [sw_len]; omega
          by_cases hlt : j < k
          · go_wp2
            go_round
            case rel => exact ⟨j + 1, by omega, by go_num, congrArg Value.string (str_two (sw j) 32 119)⟩
            case measure => simp [intOf]; omega
          · obtain rfl : j = k := by omega
            have hln : (txt j ml).length = 2 * j + ml.length + 3 := by simp [txt, sw_len]; omega
            have htl := txt_lines j ml hk (by rw [HMLEN.out]; exact hm5) HOKM.out (txt j ml).length (Nat.le_refl _)
            have HTL := Lib.hid htl
            have HTB : Hid ((((ByteArray.mk (sw j).toArray ++ ByteArray.mk #[35]) ++ m) ++ ByteArray.mk #[10, 120]).data.toList = txt j ml) := Lib.hid (by rw [← HML.out]; exact txt_bytes j m)
            have HLN : Hid ((txt j ml).length ≤ 1000000) := Lib.hid (by rw [hln, HMLEN.out]; omega)
            have HSZ : Hid ((((ByteArray.mk (sw j).toArray ++ ByteArray.mk #[35]) ++ m) ++ ByteArray.mk #[10, 120]).size = (sw j).length + 1 + m.size + 2) := Lib.hid (txt_size j m)
            clear htl hln
            rcases Nat.eq_zero_or_pos j with hj0 | hj0
            · subst hj0
              go_wp2_with (first
                | (go_at_call 14; refine (lines_conv w1 _ _ (txt 0 ml) HTB.out HSZ.out HLN.out).mono ?_; rintro e w2 ⟨v, xs, B2, rfl, hx, hxk, hb2⟩; have HB2 := Lib.hid hb2; clear hb2; obtain ⟨g, cp, rfl, e1⟩ := one_line hx (hxk.trans HTL.out); clear hx hxk)
                | fail)
              go_ret
              exact ⟨rfl, HB1.out.trans (HB2.out.mono HB1.out.size)⟩
            · have HTL2 : Hid (linesF (txt j ml).length 1 (txt j ml) = [(1, List.replicate j [119]), (2, [[120]])]) := Lib.hid (by rw [HTL.out, if_neg (by omega)]; rfl)
              have HRL : Hid ((List.replicate j [(119 : UInt8)]).length = j) := Lib.hid (by simp)
              go_wp2_with (first
                | (go_at_call 14; refine (lines_conv w1 _ _ (txt j ml) HTB.out HSZ.out HLN.out).mono ?_; rintro e w2 ⟨v, xs, B2, rfl, hx, hxk, hb2⟩; have HB2 := Lib.hid hb2; clear hb2; obtain ⟨g, cp, a1, c1, rfl, e1, e2⟩ := two_lines hx (hxk.trans HTL2.out); rw [HRL.out] at e2; clear hx hxk)
                | fail)
              go_ret
              exact ⟨rfl, HB1.out.trans (HB2.out.mono HB1.out.size)⟩
  · have hg2 : a < 0 ∨ (0 ≤ a ∧ 10 < a) ∨ (0 ≤ a ∧ a ≤ 10 ∧ r < 0) ∨ (0 ≤ a ∧ a ≤ 10 ∧ 0 ≤ r ∧ 50 < r) ∨ (0 ≤ a ∧ a ≤ 10 ∧ 0 ≤ r ∧ r ≤ 50 ∧ 50 < m.size) := by omega
    clear hg
    rcases hg2 with g1 | ⟨g1, g2⟩ | ⟨g1, g2, g3⟩ | ⟨g1, g2, g3, g4⟩ | ⟨g1, g2, g3, g4, g5⟩
    all_goals (
      go_enter Try.func5, Try.ntmps5
      go_wp2_with (first
        | (go_at_call 12; refine (bgtext.begun _).mono ?_; rintro e w1 ⟨rfl, hb1⟩; have HB1 := Lib.hid hb1; clear hb1)
        | fail)
      go_ret
      exact ⟨rfl, HB1.out⟩)
end Go.Proofs.Ytdbnfaeanngajaa.tl
