/- Numbers and folds of texts: what text and the reference make of them, for every text. -/
import Derived.Test.YtkjjidmchepjcaaDoorProg
import Derived.WalkKit
import Derived.ProofKit
import Derived.Lib.Hide
import Derived.WalkLawsBesides
import Derived.WalkSpells
import Derived.Deep.RegionWith
import Derived.Test.YtkjjidmchepjcaaDoorLB
namespace Go.Proofs.YtkjjidmchepjcaaDoor.tw
open Go Go.RowKit
set_option linter.unusedVariables false
set_option linter.unusedSimpArgs false
/-- The number that digits give behind a number, or none. -/
def digs : List UInt8 → Nat → Option Nat
  | [], n => some n
  | c :: l, n => if 48 ≤ c.toNat ∧ c.toNat ≤ 57 then digs l (10 * n + (c.toNat - 48)) else none
/-- What is read off a text, to a bound. -/
def numR (s : ByteArray) (most : Int) : Int × Bool :=
  if s.size = 0 ∨ 9 < s.size ∨ (1 < s.size ∧ (s.data.toList.getD 0 0).toNat = 48) then (0, false) else
  match digs s.data.toList 0 with
  | none => (0, false)
  | some n => if most < (n : Int) then (0, false) else ((n : Int), true)
abbrev numV (p : Int × Bool) : Ending := .returned (.tuple #[.int .i64 p.1, .bool p.2])
theorem at_data (s : ByteArray) (i : Nat) (h : i < s.size) : s[i] = s.data.toList.getD i 0 := by
  obtain ⟨⟨l⟩⟩ := s
  have hl : i < l.length := h
  simp only [List.getD, List.getElem?_eq_getElem hl, Option.getD_some]
  rfl
theorem drop_at (s : ByteArray) (i : Nat) (h : i < s.size) : s.data.toList.drop i = s.data.toList.getD i 0 :: s.data.toList.drop (i + 1) := by
  obtain ⟨⟨l⟩⟩ := s
  have hl : i < l.length := h
  simp only [List.getD, List.getElem?_eq_getElem hl, Option.getD_some]
  exact List.drop_eq_getElem_cons hl
theorem drop_end (s : ByteArray) : s.data.toList.drop s.size = [] := by
  obtain ⟨⟨l⟩⟩ := s
  exact List.drop_eq_nil_of_le (Nat.le_refl _)
theorem pow_le9 (k : Nat) (h : k ≤ 8) : 10 ^ k ≤ 100000000 := Nat.le_trans (Nat.pow_le_pow_right (by decide) h) (by decide)
theorem pow_step (k v c : Nat) (h : v < 10 ^ k) (hc : c ≤ 9) : 10 * v + c < 10 ^ (k + 1) := by
  rw [Nat.pow_succ]; omega

end Go.Proofs.YtkjjidmchepjcaaDoor.tw

namespace Go.Proofs.YtkjjidmchepjcaaDoor.tw
open Go Go.RowKit
set_option linter.unusedVariables false
set_option linter.unusedSimpArgs false
/-- A block of the call's own whose first cells are these, and may be written. -/
def RowM (w : World) (B : Nat) (e : TypeId) (xs : List Value) : Prop := ∃ (cur : Array Value) (m : Nat), w.heap[B]? = some (.cells cur e (m, m + 1)) ∧ xs.length ≤ m ∧ ∀ j, j < xs.length → cur[j]? = xs[j]?
theorem RowM.cell {w : World} {B : Nat} {e : TypeId} {xs : List Value} (h : RowM w B e xs) {j : Nat} (hj : j < xs.length) : w.cell? ⟨B, j, none⟩ = xs[j]? := by
  obtain ⟨cur, m, h1, h2, h3⟩ := h
  unfold World.cell?
  simp only [h1]
  exact h3 j hj
theorem RowM.free {w : World} {B : Nat} {e : TypeId} {xs : List Value} (h : RowM w B e xs) {j : Nat} (hj : j < xs.length) : w.frozen? ⟨B, j, none⟩ = false := by
  obtain ⟨cur, m, h1, h2, h3⟩ := h
  unfold World.frozen?
  simp only [h1]
  have : ¬ m ≤ j := by omega
  simp [this]
theorem RowM.store {w : World} {B : Nat} {e : TypeId} {xs : List Value} (h : RowM w B e xs) (j : Nat) (u : Value) : RowM (w.setCell ⟨B, j, none⟩ u) B e (xs.set j u) := by
  obtain ⟨cur, m, h1, h2, h3⟩ := h
  refine ⟨cur.setIfInBounds j u, m, ?_, by simpa using h2, fun k hk => ?_⟩
  · unfold World.setCell
    simp only
    rw [Array.getElem?_modify, if_pos rfl, h1]
    rfl
  · have hk' : k < xs.length := by simpa using hk
    by_cases e : j = k
    · subst e
      rw [List.getElem?_set_self hk']
      have : cur[j]? ≠ none := by rw [h3 j hk', List.getElem?_eq_getElem hk']; simp
      have hs : j < cur.size := by
        rcases Nat.lt_or_ge j cur.size with h | h
        · exact h
        · exact absurd (Array.getElem?_eq_none h) this
      rw [Array.getElem?_setIfInBounds_self_of_lt hs]
    · rw [Array.getElem?_setIfInBounds_ne e, List.getElem?_set_ne e, h3 k hk']
theorem RowM.drew {w : World} {B : Nat} {e : TypeId} {xs : List Value} (h : RowM w B e xs) : RowM w.drew B e xs := h
def vB (l : List UInt8) : List Value := l.map fun c => .int .u8 (c.toNat : Int)
theorem vB_get (l : List UInt8) (j : Nat) (h : j < l.length) : (vB l)[j]? = some (.int .u8 ((l.getD j 0).toNat : Int)) := by
  simp [vB, List.getD, h]
theorem RowM.bytes (W : World) (s : ByteArray) (cap : Nat) (e : TypeId) : RowM (W.alloc (.cells (bytesRow s cap) e ((bytesRow s cap).size, (bytesRow s cap).size + 1))) W.heap.size e (vB s.data.toList) := by
  refine ⟨bytesRow s cap, (bytesRow s cap).size, ?_, ?_, fun j hj => ?_⟩
  · show (W.heap.push _)[W.heap.size]? = _
    simp
  · simp [vB, bytesRow]
  · have hj' : j < s.data.size := by simpa [vB] using hj
    rw [bytesRow_at s cap j hj', vB_get _ _ (by simpa using hj')]
    have e := Array.getElem?_eq_getElem hj'
    simp [List.getD, e]
/-- A great letter is turned into a small one. -/
def foldB (c : UInt8) : UInt8 := if 65 ≤ c.toNat ∧ c.toNat ≤ 90 then c + 32 else c
def foldS (s : ByteArray) : ByteArray := ⟨(s.data.toList.map foldB).toArray⟩
theorem foldB_hit {c : UInt8} (h : 65 ≤ c.toNat ∧ c.toNat ≤ 90) : (foldB c).toNat = c.toNat + 32 := by
  unfold foldB
  rw [if_pos h, UInt8.toNat_add]
  show (c.toNat + 32) % 256 = _
  omega
theorem foldB_miss {c : UInt8} (h : ¬ (65 ≤ c.toNat ∧ c.toNat ≤ 90)) : foldB c = c := if_neg h
/-- The bytes behind k rounds. -/
def mid (l : List UInt8) (k : Nat) : List UInt8 := (l.take k).map foldB ++ l.drop k
theorem mid_len (l : List UInt8) (k : Nat) : (mid l k).length = l.length := by
  simp [mid]; omega
theorem mid_at (l : List UInt8) (k : Nat) (h : k < l.length) : (mid l k).getD k 0 = l.getD k 0 := by
  simp [mid, List.getD, List.getElem?_append, h, show min k l.length = k by omega]
theorem mid_next (l : List UInt8) (k : Nat) (h : k < l.length) : mid l (k + 1) = (mid l k).set k (foldB (l.getD k 0)) := by
  unfold mid
  rw [List.set_append, if_neg (by simp; omega)]
  simp only [List.length_map, List.length_take, show min k l.length = k by omega, Nat.sub_self]
  rw [List.drop_eq_getElem_cons h, List.set_cons_zero, List.take_succ_eq_append_getElem h]
  have e : l.getD k 0 = l[k] := by simp [List.getD, h]
  rw [e]
  simp only [List.map_append, List.map_cons, List.map_nil, List.append_assoc, List.cons_append, List.nil_append]
theorem vB_set (l : List UInt8) (k : Nat) (c : UInt8) : vB (l.set k c) = (vB l).set k (.int .u8 (c.toNat : Int)) := by
  simp [vB, List.map_set]
theorem set_same (l : List UInt8) (k : Nat) (h : k < l.length) : l.set k (l.getD k 0) = l := by
  simp [List.getD, h]
theorem fold_store {w : World} {B : Nat} {e : TypeId} {l : List UInt8} {k : Nat} (h : RowM w B e (vB (mid l k))) (hk : k < l.length) {c : UInt8} (hc : l.getD k 0 = c) (hd : 65 ≤ c.toNat ∧ c.toNat ≤ 90) {u : Int} (hu : u = (c.toNat : Int) + 32) : RowM (w.setCell ⟨B, k, none⟩ (.int .u8 u)) B e (vB (mid l (k + 1))) := by
  have := h.store k (.int .u8 u)
  rw [hu] at this
  rw [mid_next l k hk, vB_set, hc, foldB_hit hd, hu]
  simpa using this
theorem fold_skip {w : World} {B : Nat} {e : TypeId} {l : List UInt8} {k : Nat} (h : RowM w B e (vB (mid l k))) (hk : k < l.length) {c : UInt8} (hc : l.getD k 0 = c) (hd : ¬ (65 ≤ c.toNat ∧ c.toNat ≤ 90)) : RowM w B e (vB (mid l (k + 1))) := by
  have e : (mid l k).set k c = mid l k := by
    rw [← hc, ← mid_at l k hk]
    exact set_same _ _ (by rw [mid_len]; exact hk)
  rw [mid_next l k hk, hc, foldB_miss hd, e]
  exact h
theorem back {P : Program} {w : World} {B : Nat} {l : List UInt8} (h : RowM w B 5 (vB (mid l l.length))) (src dst : TypeId) (cap : Nat) (n : Nat) (hn : n = l.length) (hs : P.underlying src = some (.slice 5)) (he : P.underlying 5 = some (.int .u8)) (hd : P.underlying dst = some .string) :
    (convert src dst (.slice (some ⟨B, 0, none⟩) n cap)).run P w = .ok (.string ⟨(l.map foldB).toArray⟩) w := by
  have e1 : mid l l.length = l.map foldB := by simp [mid]
  rw [e1] at h
  have hl : n = (l.map foldB).length := by simp [hn]
  rw [hl]
  refine run_convert_bytes_back w src dst 5 ⟨B, 0, none⟩ cap (l.map foldB) hs he hd fun j hj => ?_
  have := h.cell (j := j) (by simpa [vB] using hj)
  rw [vB_get _ _ hj] at this
  have e : (⟨B, 0, none⟩ : Addr).add j = ⟨B, j, none⟩ := by
    unfold Addr.add
    split <;> simp_all
  have hj' : j < l.length := by simpa using hj
  rw [e, this]
  simp [List.getD, hj']

set_option maxHeartbeats 1600000 in
theorem fold_calls (s : ByteArray) (W : World) (hb : s.size ≤ 140737488351232) :
    Calls Tryd.prog 77 #[.string s] W fun e w' => e = .returned (.string (foldS s)) ∧ Below W.heap.size W w' := by
  have hcv := fun w s => run_bytes_of_string (P := Tryd.prog) w 9 24 5 s Tryd.underlying9 Tryd.underlying24 Tryd.underlying5
  obtain ⟨l, hl⟩ : ∃ l, s.data.toList = l := ⟨_, rfl⟩
  have hlen : l.length = s.size := by rw [← hl]; rfl
  have hrow := RowM.bytes W s (grownCap W s.size 0 5) 5
  rw [hl] at hrow
  have hbel : Below W.heap.size W (W.alloc (.cells (bytesRow s (grownCap W s.size 0 5)) 5 ((bytesRow s (grownCap W s.size 0 5)).size, (bytesRow s (grownCap W s.size 0 5)).size + 1))) := (Below.refl _ W).alloc (Nat.le_refl _) _
  have HS : Hid (foldS s = ⟨(l.map foldB).toArray⟩) := Lib.hid (by rw [← hl]; rfl)
  have HL := Lib.hid hlen
  have HR := Lib.hid hrow
  have HBL := Lib.hid hbel
  clear hl hlen hrow hbel
  go_enter Tryd.func77, Tryd.ntmps77
  go_wp2
  go_loopw [10] (fun i wr => ∃ k : Nat, k ≤ s.size ∧ i = .int .i64 k ∧ RowM wr W.heap.size 5 (vB (mid l k)) ∧ Below W.heap.size W wr) (fun i _ => s.size - (intOf i).toNat)
  case atStart => exact ⟨0, Nat.zero_le _, rfl, by simpa [mid] using HR.out.drew, HBL.out.drew⟩
  case round =>
    obtain ⟨k, hk, rfl, hr, hbl⟩ := hrel
    have HRW := Lib.hid hr
    have HBW := Lib.hid hbl
    clear hr hbl
    by_cases hlt : k < s.size
    · obtain ⟨c, hc⟩ : ∃ c, l.getD k 0 = c := ⟨_, rfl⟩
      have hkl : k < (vB (mid l k)).length := by simp only [vB, List.length_map, mid_len]; rw [HL.out]; exact hlt
      have hcx : wr.cell? ⟨W.heap.size, k, none⟩ = some (.int .u8 (c.toNat : Int)) := by
        rw [HRW.out.cell hkl, vB_get _ _ (by rw [mid_len, HL.out]; exact hlt), mid_at _ _ (by rw [HL.out]; exact hlt), hc]
      have hfx : wr.frozen? ⟨W.heap.size, k, none⟩ = false := HRW.out.free hkl
      have HC := Lib.hid hc
      have HK := Lib.hid hkl
      have hc255 : c.toNat < 256 := c.toNat_lt
      clear hc hkl
      by_cases hd : 65 ≤ c.toNat ∧ c.toNat ≤ 90
      · obtain ⟨hlo, hhi⟩ := hd
        go_wp2
        go_roundw
        case rel => exact ⟨k + 1, by omega, by go_num, fold_store HRW.out (by rw [HL.out]; exact hlt) HC.out ⟨hlo, hhi⟩ (by omega), HBW.out.setCell (Nat.le_refl _) _⟩
        case measure => simp [intOf]; omega
      · rcases (show c.toNat < 65 ∨ 90 < c.toNat by omega) with hlo | hhi
        · go_wp2
          go_roundw
          case rel => exact ⟨k + 1, by omega, by go_num, fold_skip HRW.out (by rw [HL.out]; exact hlt) HC.out (by omega), HBW.out⟩
          case measure => simp [intOf]; omega
        · have hlo : 65 ≤ c.toNat := by omega
          go_wp2
          go_roundw
          case rel => exact ⟨k + 1, by omega, by go_num, fold_skip HRW.out (by rw [HL.out]; exact hlt) HC.out (by omega), HBW.out⟩
          case measure => simp [intOf]; omega
    · obtain rfl : k = s.size := by omega
      have hrr := HRW.out
      rw [← HL.out] at hrr
      have hbk0 := back hrr 24 9 (grownCap W s.size 0 5) s.size HL.out.symm Tryd.underlying24 Tryd.underlying5 Tryd.underlying9
      have hbk1 := back hrr.drew 24 9 (grownCap W s.size 0 5) s.size HL.out.symm Tryd.underlying24 Tryd.underlying5 Tryd.underlying9
      clear hrr
      go_wp2
      go_ret
      exact ⟨by rw [HS.out]; rfl, by first | exact HBW.out | exact HBW.out.drew⟩

set_option maxHeartbeats 1600000 in
theorem rfold_calls (s : ByteArray) (W : World) (hb : s.size ≤ 140737488351232) :
    Calls Tryd.prog 81 #[.string s] W fun e w' => e = .returned (.string (foldS s)) ∧ Below W.heap.size W w' := by
  have hcv := fun w s => run_bytes_of_string (P := Tryd.prog) w 9 24 5 s Tryd.underlying9 Tryd.underlying24 Tryd.underlying5
  obtain ⟨l, hl⟩ : ∃ l, s.data.toList = l := ⟨_, rfl⟩
  have hlen : l.length = s.size := by rw [← hl]; rfl
  have hrow := RowM.bytes W s (grownCap W s.size 0 5) 5
  rw [hl] at hrow
  have hbel : Below W.heap.size W (W.alloc (.cells (bytesRow s (grownCap W s.size 0 5)) 5 ((bytesRow s (grownCap W s.size 0 5)).size, (bytesRow s (grownCap W s.size 0 5)).size + 1))) := (Below.refl _ W).alloc (Nat.le_refl _) _
  have HS : Hid (foldS s = ⟨(l.map foldB).toArray⟩) := Lib.hid (by rw [← hl]; rfl)
  have HL := Lib.hid hlen
  have HR := Lib.hid hrow
  have HBL := Lib.hid hbel
  clear hl hlen hrow hbel
  go_enter Tryd.func81, Tryd.ntmps81
  go_wp2
  go_loopw [4] (fun i wr => ∃ k : Nat, k ≤ s.size ∧ i = .int .i64 k ∧ RowM wr W.heap.size 5 (vB (mid l k)) ∧ Below W.heap.size W wr) (fun i _ => s.size - (intOf i).toNat)
  case atStart => exact ⟨0, Nat.zero_le _, rfl, by simpa [mid] using HR.out.drew, HBL.out.drew⟩
  case round =>
    obtain ⟨k, hk, rfl, hr, hbl⟩ := hrel
    have HRW := Lib.hid hr
    have HBW := Lib.hid hbl
    clear hr hbl
    by_cases hlt : k < s.size
    · obtain ⟨c, hc⟩ : ∃ c, l.getD k 0 = c := ⟨_, rfl⟩
      have hkl : k < (vB (mid l k)).length := by simp only [vB, List.length_map, mid_len]; rw [HL.out]; exact hlt
      have hcx : wr.cell? ⟨W.heap.size, k, none⟩ = some (.int .u8 (c.toNat : Int)) := by
        rw [HRW.out.cell hkl, vB_get _ _ (by rw [mid_len, HL.out]; exact hlt), mid_at _ _ (by rw [HL.out]; exact hlt), hc]
      have hfx : wr.frozen? ⟨W.heap.size, k, none⟩ = false := HRW.out.free hkl
      have HC := Lib.hid hc
      have HK := Lib.hid hkl
      have hc255 : c.toNat < 256 := c.toNat_lt
      clear hc hkl
      by_cases hd : 65 ≤ c.toNat ∧ c.toNat ≤ 90
      · obtain ⟨hlo, hhi⟩ := hd
        go_wp2
        go_roundw
        case rel => exact ⟨k + 1, by omega, by go_num, fold_store HRW.out (by rw [HL.out]; exact hlt) HC.out ⟨hlo, hhi⟩ (by omega), HBW.out.setCell (Nat.le_refl _) _⟩
        case measure => simp [intOf]; omega
      · rcases (show c.toNat < 65 ∨ 90 < c.toNat by omega) with hlo | hhi
        · go_wp2
          go_roundw
          case rel => exact ⟨k + 1, by omega, by go_num, fold_skip HRW.out (by rw [HL.out]; exact hlt) HC.out (by omega), HBW.out⟩
          case measure => simp [intOf]; omega
        · have hlo : 65 ≤ c.toNat := by omega
          go_wp2
          go_roundw
          case rel => exact ⟨k + 1, by omega, by go_num, fold_skip HRW.out (by rw [HL.out]; exact hlt) HC.out (by omega), HBW.out⟩
          case measure => simp [intOf]; omega
    · obtain rfl : k = s.size := by omega
      have hrr := HRW.out
      rw [← HL.out] at hrr
      have hbk0 := back hrr 24 9 (grownCap W s.size 0 5) s.size HL.out.symm Tryd.underlying24 Tryd.underlying5 Tryd.underlying9
      have hbk1 := back hrr.drew 24 9 (grownCap W s.size 0 5) s.size HL.out.symm Tryd.underlying24 Tryd.underlying5 Tryd.underlying9
      clear hrr
      go_wp2
      go_ret
      exact ⟨by rw [HS.out]; rfl, by first | exact HBW.out | exact HBW.out.drew⟩
end Go.Proofs.YtkjjidmchepjcaaDoor.tw
