/- The plain law of lines: cut at the bytes 10, split at blanks ahead of a 35, or read byte by byte: the same. -/
import Derived.Test.YtdbnfaeanngajaaProg
import Derived.WalkKit
import Derived.ProofKit
import Derived.Lib.Hide
import Derived.WalkLawsBesides
import Derived.WalkSpells
import Derived.Deep.RegionWith
import Derived.Laws.RangeString
import Derived.Test.YtdbnfaeanngajaaTD
namespace Go.Proofs.Ytdbnfaeanngajaa.tl
open Go Go.RowKit
set_option linter.unusedVariables false
set_option linter.unusedSimpArgs false
def wordsG : List UInt8 → List (List UInt8) → List UInt8 → List (List UInt8)
  | [], acc, word => if word = [] then acc else acc ++ [word]
  | x :: l, acc, word => if blankN x.toNat then wordsG l (if word = [] then acc else acc ++ [word]) [] else wordsG l acc (word ++ [x])
theorem bad_fine (x : UInt8) : badN x.toNat = !fineC x := by
  unfold badN fineC blankN
  rw [Bool.eq_iff_iff]
  simp
  omega
theorem run_rest : ∀ (l : List UInt8) (acc : List (List UInt8)) (word : List UInt8), oneRun l ⟨acc, word, true⟩ = if l.all fineC = true then some ⟨acc, word, true⟩ else none
  | [], acc, word => rfl
  | x :: l, acc, word => by
    rw [oneRun, oneStep, bad_fine, List.all_cons]
    cases h : fineC x
    · simp
    · simp only [Bool.not_true, Bool.false_eq_true, if_false, Bool.true_or, if_true, Bool.true_and]
      exact run_rest l acc word
theorem run_words : ∀ (l : List UInt8) (acc : List (List UInt8)) (word : List UInt8), oneEnd (oneRun l ⟨acc, word, false⟩) = if l.all fineC = true then wordsG (upto 35 l) acc word else []
  | [], acc, word => by simp [oneRun, oneEnd, upto, wordsG]
  | x :: l, acc, word => by
    rw [oneRun, oneStep, bad_fine, List.all_cons, upto]
    cases h : fineC x
    · simp [oneEnd]
    · simp only [Bool.not_true, Bool.false_eq_true, if_false, Bool.false_or, Bool.true_and]
      by_cases h35 : x = 35
      · subst h35
        have e1 : ((35 : UInt8) == 35) = true := rfl
        have e2 : ((35 : UInt8).toNat == 35) = true := rfl
        simp only [e1, e2, if_true]
        rw [run_rest]
        by_cases hl : l.all fineC = true
        · rw [if_pos hl, if_pos hl]; rfl
        · rw [if_neg hl, if_neg hl]; rfl
      · have hx : x.toNat ≠ 35 := fun e => h35 (UInt8.toNat_inj.1 (by simpa using e))
        have e1 : (x == 35) = false := by simpa using h35
        have e2 : (x.toNat == 35) = false := by simpa using hx
        simp only [e1, e2, Bool.false_eq_true, if_false, wordsG]
        cases hb : blankN x.toNat
        · simp only [Bool.false_eq_true, if_false]; exact run_words l acc (word ++ [x])
        · simp only [if_true]; exact run_words l _ []
theorem blank_fine (x : UInt8) (h : fineC x = true) : x.toNat < 128 := by
  unfold fineC at h; simp at h; omega
def stW (s : ByteArray) (pos : Nat) : Option Nat → List UInt8
  | none => []
  | some a => (s.extract a pos).data.toList
theorem ext_list (l : List UInt8) (a b : Nat) : ((ByteArray.mk l.toArray).extract a b).data.toList = (l.take b).drop a := by
  rw [ByteArray.data_extract]
  simp [Array.toList_extract, List.extract, List.drop_take]
theorem spans_succ (p : Nat → Bool) (s : ByteArray) (f pos : Nat) (st : Option Nat) (acc : List (Nat × Nat)) : Lib.spansFromP p s (f + 1) pos st acc =
    if pos < s.size then
      (if p (Utf8.decode s pos).1 then
        (match st with
         | some a => Lib.spansFromP p s f (pos + (Utf8.decode s pos).2) none (acc ++ [(a, pos)])
         | none => Lib.spansFromP p s f (pos + (Utf8.decode s pos).2) none acc)
       else
        (match st with
         | some a => Lib.spansFromP p s f (pos + (Utf8.decode s pos).2) (some a) acc
         | none => Lib.spansFromP p s f (pos + (Utf8.decode s pos).2) (some pos) acc))
    else (acc, st) := rfl
theorem spans_words (l : List UInt8) (hl : l.all fineC = true) : ∀ (g pos : Nat) (st : Option Nat) (acc : List (Nat × Nat)), pos ≤ l.length → l.length ≤ pos + g → (∀ a, st = some a → a < pos) →
    ((Lib.closeSpans ⟨l.toArray⟩ (Lib.spansFromP blankN ⟨l.toArray⟩ g pos st acc)).map fun x => ((ByteArray.mk l.toArray).extract x.1 x.2).data.toList) = wordsG (l.drop pos) (acc.map fun x => ((ByteArray.mk l.toArray).extract x.1 x.2).data.toList) (stW ⟨l.toArray⟩ pos st) := by
  intro g
  have hsz : (ByteArray.mk l.toArray).size = l.length := by simp [ByteArray.size]
  have fin : ∀ (g : Nat) (st : Option Nat) (acc : List (Nat × Nat)), (∀ a, st = some a → a < l.length) →
    ((Lib.closeSpans ⟨l.toArray⟩ (Lib.spansFromP blankN ⟨l.toArray⟩ g l.length st acc)).map fun x => ((ByteArray.mk l.toArray).extract x.1 x.2).data.toList) = wordsG (l.drop l.length) (acc.map fun x => ((ByteArray.mk l.toArray).extract x.1 x.2).data.toList) (stW ⟨l.toArray⟩ l.length st) := by
    intro g st acc hs
    rw [Lib.spansFromP_end _ _ _ _ _ _ (by rw [hsz]; omega), List.drop_length, wordsG]
    cases st with
    | none => simp [Lib.closeSpans, stW]
    | some a =>
      have ha := hs a rfl
      have hne : (l.take l.length).drop a ≠ [] := fun e => by
        have := congrArg List.length e
        simp at this; omega
      simp only [Lib.closeSpans, stW, hsz, List.map_append, List.map_cons, List.map_nil, ext_list]
      rw [if_neg hne]
  induction g with
  | zero =>
    intro pos st acc hp hg hs
    obtain rfl : pos = l.length := by omega
    exact fin 0 st acc hs
  | succ g ih =>
    intro pos st acc hp hg hs
    by_cases hend : pos < l.length
    · · have hdr : l.drop pos = l[pos] :: l.drop (pos + 1) := List.drop_eq_getElem_cons hend
        have hat : (ByteArray.mk l.toArray)[pos]'(by rw [hsz]; exact hend) = l[pos] := rfl
        have hfx : fineC l[pos] = true := List.all_eq_true.1 hl _ (List.getElem_mem hend)
        have hdec := decode_ascii ⟨l.toArray⟩ pos (by rw [hsz]; exact hend) (by rw [hat]; exact blank_fine _ hfx)
        rw [hat] at hdec
        rw [spans_succ, hsz, if_pos hend, hdec, hdr, wordsG]
        have hword : ∀ a, a < pos → (l.take pos).drop a ≠ [] := fun a ha e => by
          have := congrArg List.length e
          simp at this; omega
        have hsn : ∀ a, a ≤ pos → (l.take (pos + 1)).drop a = (l.take pos).drop a ++ [l[pos]] := fun a ha => by
          rw [List.take_succ_eq_append_getElem hend, List.drop_append_of_le_length (by simp; omega)]
        cases hb : blankN l[pos].toNat
        · simp only [Bool.false_eq_true, if_false]
          cases st with
          | none =>
            simp only
            rw [ih (pos + 1) (some pos) acc (by omega) (by omega) (fun a ha => by cases ha; omega)]
            simp only [stW, ext_list]
            rw [hsn pos (Nat.le_refl _)]
            simp
          | some a =>
            simp only
            rw [ih (pos + 1) (some a) acc (by omega) (by omega) (fun b hb => by cases hb; have := hs a rfl; omega)]
            simp only [stW, ext_list]
            rw [hsn a (Nat.le_of_lt (hs a rfl))]
        · simp only [if_true]
          cases st with
          | none =>
            simp only
            rw [ih (pos + 1) none acc (by omega) (by omega) (fun a ha => by cases ha)]
            simp only [stW, if_true]
          | some a =>
            simp only
            rw [ih (pos + 1) none (acc ++ [(a, pos)]) (by omega) (by omega) (fun a ha => by cases ha)]
            have hw := hword a (hs a rfl)
            simp only [stW, ext_list, List.map_append, List.map_cons, List.map_nil]
            rw [if_neg hw]
    · obtain rfl : pos = l.length := by omega
      exact fin _ st acc hs
theorem fields_words (l : List UInt8) (hl : l.all fineC = true) : fieldsW l = wordsG l [] [] := by
  have h := spans_words l hl l.length 0 none [] (Nat.zero_le _) (by omega) (fun a ha => by cases ha)
  simp only [List.drop_zero, List.map_nil, stW] at h
  rw [← h]
  simp only [fieldsW, Lib.goFieldsP, Lib.spansOfP, List.map_map]
  rfl
theorem upto_all (x : UInt8) (p : UInt8 → Bool) : ∀ l : List UInt8, l.all p = true → (upto x l).all p = true
  | [], _ => rfl
  | c :: l, h => by
    rw [List.all_cons, Bool.and_eq_true] at h
    rw [upto]
    split
    · rfl
    · rw [List.all_cons, h.1, upto_all x p l h.2]; rfl
theorem one_fields (l : List UInt8) : oneL l = if fineL l = true then fieldsW (upto 35 l) else [] := by
  unfold oneL fineL
  by_cases h5 : 512 < l.length
  · rw [if_pos h5, if_neg (by simp; intro _; omega)]
  · rw [if_neg h5, run_words]
    by_cases hf : l.all fineC = true
    · rw [if_pos hf, if_pos (by simp [hf]; omega), fields_words _ (upto_all 35 fineC l hf)]
    · rw [if_neg hf, if_neg (by simp [hf])]
theorem lineW_lineF (no : Nat) (l : List UInt8) : lineW no (upto 10 l) = lineF (no + 1) l := by
  unfold lineW lineF
  rw [one_fields]
  by_cases hf : fineL (upto 10 l) = true
  · rw [if_pos hf]
    by_cases h0 : (fieldsW (upto 35 (upto 10 l))).length = 0
    · rw [if_pos h0, if_neg (fun h => h.2 h0)]
    · rw [if_neg h0, if_pos ⟨hf, h0⟩]
  · rw [if_neg hf, if_pos (by simp), if_neg (fun h => hf h.1)]
theorem lineW_nil (no : Nat) : lineW no [] = [] := by
  unfold lineW
  rw [if_pos]
  rw [one_fields]
  decide
theorem linesGo_step : ∀ (l : List UInt8) (no : Nat) (cur : List UInt8), linesGo no cur l = lineW no (cur ++ upto 10 l) ++ (if l.contains 10 then linesGo (no + 1) [] (past 10 l) else [])
  | [], no, cur => by simp [linesGo, upto]
  | x :: l, no, cur => by
    rw [linesGo, upto, past]
    by_cases h : x = 10
    · subst h
      rw [if_pos (by rfl), if_pos (by rfl), if_pos (by rfl), if_pos (by simp), List.append_nil]
    · have hx : x.toNat ≠ 10 := fun e => h (UInt8.toNat_inj.1 (by simpa using e))
      have hne : ¬ ((x == 10) = true) := by simpa using h
      rw [if_neg hx, if_neg hne, if_neg hne, linesGo_step l no (cur ++ [x])]
      have hc : (x :: l).contains 10 = l.contains 10 := by
        rw [List.contains_cons]
        have : (10 == x) = false := by simpa using fun e => h e.symm
        rw [this, Bool.false_or]
      rw [hc, List.append_assoc]
      rfl
theorem past_none : ∀ l : List UInt8, l.contains 10 = false → past 10 l = []
  | [], _ => rfl
  | x :: l, h => by
    rw [List.contains_cons, Bool.or_eq_false_iff] at h
    rw [past, if_neg (by have := h.1; simp at this; simpa using fun e => this e.symm), past_none l h.2]
theorem lines_same : ∀ (g : Nat) (l : List UInt8) (no : Nat), l.length ≤ g → linesGo no [] l = linesF g (no + 1) l
  | g, [], no, _ => by rw [linesF_nil]; exact lineW_nil no
  | 0, x :: l, no, h => by simp at h
  | g + 1, x :: l, no, h => by
    rw [linesGo_step, List.nil_append, lineW_lineF, linesF, if_neg (show ¬ (x :: l = []) by simp)]
    congr 1
    have hp := past_lt 10 (x :: l) (by simp)
    by_cases hc : (x :: l).contains 10 = true
    · rw [if_pos hc]; exact lines_same g _ (no + 1) (by omega)
    · have hc' : (x :: l).contains 10 = false := by cases h : (x :: l).contains 10 <;> simp_all
      rw [if_neg hc, past_none _ hc', linesF_nil]
end Go.Proofs.Ytdbnfaeanngajaa.tl
