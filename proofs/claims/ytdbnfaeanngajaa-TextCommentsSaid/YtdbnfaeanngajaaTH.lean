/- Blocks that a conversion of a text lays: their cells, and what may be written. -/
import Derived.Test.YtdbnfaeanngajaaProg
import Derived.WalkKit
import Derived.ProofKit
import Derived.Lib.Hide
import Derived.WalkLawsBesides
import Derived.WalkSpells
import Derived.Deep.RegionWith
import Derived.Test.YtdbnfaeanngajaaTB
namespace Go.Proofs.Ytdbnfaeanngajaa.tl
open Go Go.RowKit
set_option linter.unusedVariables false
set_option linter.unusedSimpArgs false
/-- A block of the call's own whose first cells are these, and may be written. -/
def RowM (w : World) (B : Nat) (e : TypeId) (xs : List Value) : Prop := ∃ (cur : Array Value) (m : Nat), w.heap[B]? = some (.cells cur e (m, m + 1)) ∧ xs.length ≤ m ∧ ∀ j, j < xs.length → cur[j]? = xs[j]?
theorem RowM.cell {w : World} {B : Nat} {e : TypeId} {xs : List Value} (h : RowM w B e xs) {j : Nat} (hj : j < xs.length) : w.cell? ⟨B, j, none⟩ = xs[j]? := by
  obtain ⟨cur, m, h1, h2, h3⟩ := h
  unfold World.cell?
  simp only [h1]
  exact h3 j hj
theorem RowM.free {w : World} {B : Nat} {e : TypeId} {xs : List Value} (h : RowM w B e xs) {j : Nat} (hj : j < xs.length) : w.frozen? ⟨B, j, none⟩ = false := by
  obtain ⟨cur, m, h1, h2, h3⟩ := h
  unfold World.frozen?
  simp only [h1]
  have : ¬ m ≤ j := by omega
  simp [this]
theorem RowM.store {w : World} {B : Nat} {e : TypeId} {xs : List Value} (h : RowM w B e xs) (j : Nat) (u : Value) : RowM (w.setCell ⟨B, j, none⟩ u) B e (xs.set j u) := by
  obtain ⟨cur, m, h1, h2, h3⟩ := h
  refine ⟨cur.setIfInBounds j u, m, ?_, by simpa using h2, fun k hk => ?_⟩
  · unfold World.setCell
    simp only
    rw [Array.getElem?_modify, if_pos rfl, h1]
    rfl
  · have hk' : k < xs.length := by simpa using hk
    by_cases e : j = k
    · subst e
      rw [List.getElem?_set_self hk']
      have : cur[j]? ≠ none := by rw [h3 j hk', List.getElem?_eq_getElem hk']; simp
      have hs : j < cur.size := by
        rcases Nat.lt_or_ge j cur.size with h | h
        · exact h
        · exact absurd (Array.getElem?_eq_none h) this
      rw [Array.getElem?_setIfInBounds_self_of_lt hs]
    · rw [Array.getElem?_setIfInBounds_ne e, List.getElem?_set_ne e, h3 k hk']
theorem RowM.drew {w : World} {B : Nat} {e : TypeId} {xs : List Value} (h : RowM w B e xs) : RowM w.drew B e xs := h
def vB (l : List UInt8) : List Value := l.map fun c => .int .u8 (c.toNat : Int)
theorem vB_get (l : List UInt8) (j : Nat) (h : j < l.length) : (vB l)[j]? = some (.int .u8 ((l.getD j 0).toNat : Int)) := by
  simp [vB, List.getD, h]
theorem RowM.bytes (W : World) (s : ByteArray) (cap : Nat) (e : TypeId) : RowM (W.alloc (.cells (bytesRow s cap) e ((bytesRow s cap).size, (bytesRow s cap).size + 1))) W.heap.size e (vB s.data.toList) := by
  refine ⟨bytesRow s cap, (bytesRow s cap).size, ?_, ?_, fun j hj => ?_⟩
  · show (W.heap.push _)[W.heap.size]? = _
    simp
  · simp [vB, bytesRow]
  · have hj' : j < s.data.size := by simpa [vB] using hj
    rw [bytesRow_at s cap j hj', vB_get _ _ (by simpa using hj')]
    have e := Array.getElem?_eq_getElem hj'
    simp [List.getD, e]
theorem RowM.bytesAt {w : World} {B : Nat} {e : TypeId} {l : List UInt8} (h : RowM w B e (vB l)) : BytesAt w (some ⟨B, 0, none⟩) l := by
  right
  refine ⟨B, 0, rfl, fun j hj => ?_⟩
  rw [Nat.zero_add, h.cell (by simpa [vB] using hj), vB_get _ _ hj]
end Go.Proofs.Ytdbnfaeanngajaa.tl
