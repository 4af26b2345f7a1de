/- Action: a table in memory; what Len, Source and Next tell of it. -/
import Derived.Test.YtgfkgoiaoglhnaaProg
import Derived.WalkKit
import Derived.ProofKit
import Derived.Lib.Hide
import Derived.WalkLawsBesides
import Derived.WalkSpells
import Derived.Deep.RegionWith
import Derived.Deep.QuietTactic
import Derived.BigQuiet
import Derived.Deep.RegionHeld3
import Derived.Test.YtgfkgoiaoglhnaaAA
namespace Go.Proofs.Ytgfkgoiaoglhnaa.ac
open Go Go.RowKit
set_option linter.unusedVariables false
set_option linter.unusedSimpArgs false
/-- A whole struct read at an address. -/
theorem run_loadVar_at {P : Program} (w : World) (b o : Nat) (ty : TypeId) (cs : Array Value) (d : TypeDesc) (hc : ∀ j v, cs[j]? = some v → w.cell? ⟨b, o + j, none⟩ = some v)
    (hu : P.underlying ty = some d) (hd : (match d with | .struct _ | .array _ _ => true | _ => false) = true) (hi : (P.info? ty).map (·.size) = some cs.size) :
    (loadVar ty ⟨b, o, none⟩).run P w = .ok (.agg cs) w := by
  have hl : (loadCells ⟨b, o, none⟩ cs.toList.length).run P w = .ok cs.toList.toArray w :=
    run_loadCells_list (P := P) w ⟨b, o, none⟩ cs.toList (fun j v hv => by
      rw [lb.add_flat]
      exact hc j v (by simpa using hv))
  cases hq : P.info? ty with
  | none => simp [hq] at hi
  | some i =>
    have hs : i.size = cs.size := by simpa [hq] using hi
    have hagg : (isAgg ty).run P w = .ok true w := by
      unfold isAgg
      rw [Sem.run_bind, run_underlying hu w]
      cases d <;> simp_all
    simp only [Array.length_toList, Array.toArray_toList] at hl
    simp [loadVar, Sem.run_bind, hagg, sizeOf, typeInfo, hq, hs, hl]
set_option maxRecDepth 100000 in
theorem size_row : (Try.prog.info? 80).map (·.size) = some 9 := by kernel_rfl
set_option maxRecDepth 100000 in
theorem size_step : (Try.prog.info? 37).map (·.size) = some 5 := by kernel_rfl
def nxt (n i : Nat) (a : Int) : Int := if a ≠ 1 ∧ i + 1 < n then (i : Int) + 1 else 0
def rowCells (n i : Nat) (x : ST) : List Value := [.string x.src, .int .i64 x.d0, .int .i64 x.d1, .int .i64 x.d2, .int .i64 x.d3, .int .i64 (nxt n i x.d0), .int .i64 (nxt n i x.d1), .int .i64 (nxt n i x.d2), .int .i64 (nxt n i x.d3)]
def rowsC (n : Nat) : Nat → List ST → List Value
  | _, [] => []
  | i, x :: l => rowCells n i x ++ rowsC n (i + 1) l
theorem rowsC_get (n : Nat) : ∀ (S : List ST) (i k : Nat) (hk : k < S.length) (j : Nat), j < 9 → (rowsC n i S)[k * 9 + j]? = (rowCells n (i + k) S[k])[j]?
  | x :: S, i, 0, _, j, hj => by
    simp only [rowsC, Nat.zero_mul, Nat.zero_add, Nat.add_zero]
    rw [List.getElem?_append_left (by simp [rowCells]; omega)]
    rfl
  | x :: S, i, k + 1, hk, j, hj => by
    have ih := rowsC_get n S (i + 1) k (by simpa using hk) j hj
    simp only [rowsC]
    rw [List.getElem?_append_right (by simp [rowCells]; omega)]
    have e : (k + 1) * 9 + j - (rowCells n i x).length = k * 9 + j := by simp [rowCells]; omega
    rw [e, ih, show i + 1 + k = i + (k + 1) by omega]
    rfl
theorem rowsC_snoc (n : Nat) (x : ST) : ∀ (S : List ST) (i : Nat), rowsC n i (S ++ [x]) = rowsC n i S ++ rowCells n (i + S.length) x
  | [], i => by simp [rowsC]
  | y :: S, i => by
    simp only [List.cons_append, rowsC, rowsC_snoc n x S (i + 1), List.append_assoc, List.length_cons]
    rw [show i + 1 + S.length = i + (S.length + 1) by omega]
/-- A table of these steps. -/
def TableAt (w : World) (B tb : Nat) (S : List ST) : Prop := ∃ v, B ≤ tb ∧ w.heap[tb]? = some (.cells #[v] 78 (0, 0)) ∧ w.ownsRow B 80 9 v S.length (rowsC S.length 0 S)
theorem TableAt.later {w w' : World} {B tb : Nat} {S : List ST} (h : TableAt w B tb S) (hb : Below w.heap.size w w') : TableAt w' B tb S := by
  obtain ⟨v, h0, h1, h2⟩ := h
  exact ⟨v, h0, by rw [hb.block tb (Array.getElem?_eq_some_iff.1 h1).1]; exact h1, lb.own_later h2 hb⟩
theorem TableAt.cell {w : World} {B tb : Nat} {S : List ST} (h : TableAt w B tb S) : ∃ ad c, w.cell? ⟨tb, 0, none⟩ = some (.slice ad S.length c) ∧ S.length ≤ 9223372036854775807 := by
  obtain ⟨v, h0, h1, h2⟩ := h
  obtain ⟨ad, c, rfl⟩ := lb.own_shape h2
  exact ⟨ad, c, by simp [World.cell?, h1], lb.own_max h2⟩
theorem TableAt.row {w : World} {B tb : Nat} {S : List ST} (h : TableAt w B tb S) (k : Nat) (hk : k < S.length) : ∃ g c, w.cell? ⟨tb, 0, none⟩ = some (.slice (some ⟨g, 0, none⟩) S.length c) ∧ ∀ j, j < 9 → w.cell? ⟨g, k * 9 + j, none⟩ = (rowCells S.length k S[k])[j]? := by
  obtain ⟨v, h0, h1, h2⟩ := h
  rcases h2.2 with ⟨rfl, h3⟩ | ⟨g, cap, cur, rfl, hb, hg, rest⟩
  · omega
  · refine ⟨g, cap, by simp [World.cell?, h1], fun j hj => ?_⟩
    rw [h2.cellAt (k * 9 + j) (by omega), rowsC_get _ S 0 k hk j hj, Nat.zero_add]
set_option maxRecDepth 100000 in
theorem len_calls (W : World) (B tb : Nat) (S : List ST) (n : Nat) (hn : S.length = n) (h : TableAt W B tb S) : Calls Try.prog 18 #[.pointer (some ⟨tb, 0, none⟩)] W fun e w' => e = .returned (.int .i64 (n : Int)) ∧ w' = W := by
  subst hn
  obtain ⟨ad, c, hc, hm⟩ := h.cell
  obtain ⟨n, hn⟩ : ∃ n, S.length = n := ⟨_, rfl⟩
  rw [hn] at hc ⊢
  clear h hn
  go_enter Try.func18, Try.ntmps18
  go_wp2
  go_ret
  exact ⟨rfl, rfl⟩
/-- The source that a row tells. -/
def srcAt (S : List ST) (r : Int) : ByteArray := if h : 0 ≤ r ∧ r.toNat < S.length then (S[r.toNat]'h.2).src else ⟨#[]⟩
theorem srcAt_out {S : List ST} {r : Int} (h : r < 0 ∨ (S.length : Int) ≤ r) : srcAt S r = ⟨#[]⟩ := by
  unfold srcAt
  rw [dif_neg (by omega)]
theorem srcAt_in {S : List ST} {k : Nat} (h : k < S.length) : srcAt S (k : Int) = (S[k]).src := by
  unfold srcAt
  rw [dif_pos (by omega)]
  rfl
set_option maxRecDepth 100000 in
theorem source_calls (W : World) (B tb : Nat) (S : List ST) (r : Int) (h : TableAt W B tb S) : Calls Try.prog 15 #[.pointer (some ⟨tb, 0, none⟩), .int .i64 r] W fun e w' => e = .returned (.string (srcAt S r)) ∧ w' = W := by
  have HT := Lib.hid h
  obtain ⟨n, hn⟩ : ∃ n, S.length = n := ⟨_, rfl⟩
  have HN := Lib.hid hn
  clear h hn
  rcases (show r < 0 ∨ (n : Int) ≤ r ∨ (0 ≤ r ∧ r < n) by omega) with h | h | ⟨h, h'⟩
  · have HR := Lib.hid (srcAt_out (S := S) (r := r) (.inl h))
    go_enter Try.func15, Try.ntmps15
    go_wp2
    go_ret
    exact ⟨by rw [HR.out]; rfl, rfl⟩
  · have HR := Lib.hid (srcAt_out (S := S) (r := r) (.inr (by rw [HN.out]; exact h)))
    go_enter Try.func15, Try.ntmps15
    go_wp2_with (first | (go_at_call 18; refine (len_calls _ B tb S n HN.out HT.out).mono ?_; rintro e w2 ⟨rfl, hw⟩; obtain rfl := hw) | fail)
    go_ret
    exact ⟨by rw [HR.out]; rfl, rfl⟩
  · obtain ⟨k, rfl⟩ : ∃ k : Nat, r = k := ⟨r.toNat, by omega⟩
    have hk : k < S.length := by rw [HN.out]; omega
    obtain ⟨g, c, hc, hr⟩ := HT.out.row k hk
    have e0 := hr 0 (by omega)
    rw [HN.out] at hc
    have HR := Lib.hid (srcAt_in hk)
    obtain ⟨s, hs⟩ : ∃ s, (S[k]).src = s := ⟨_, rfl⟩
    simp only [rowCells, hs, List.getElem?_cons_zero, Nat.add_zero] at e0
    have hm : (n : Int) ≤ 9223372036854775807 := by obtain ⟨_, _, _, hm⟩ := HT.out.cell; rw [HN.out] at hm; omega
    rw [hs] at HR
    clear hr hs
    go_enter Try.func15, Try.ntmps15
    go_wp2_with (first | (go_at_call 18; refine (len_calls _ B tb S n HN.out HT.out).mono ?_; rintro e w2 ⟨rfl, hw⟩; obtain rfl := hw) | fail)
    go_ret
    exact ⟨by rw [HR.out]; rfl, rfl⟩
end Go.Proofs.Ytgfkgoiaoglhnaa.ac
