/- Action: what the law ActionDrive's closure tells; its plain words. -/
import Derived.Test.YtgfkgoiaoglhnaaProg
import Derived.WalkKit
import Derived.ProofKit
import Derived.Lib.Hide
import Derived.WalkLawsBesides
import Derived.WalkSpells
import Derived.Deep.RegionWith
import Derived.OpenShut
import Derived.ChangeSlices
import Derived.Test.YtgfkgoiaoglhnaaAF
namespace Go.Proofs.Ytgfkgoiaoglhnaa.ac
open Go Go.RowKit Go.ChangeShapes Go.WideShapes
set_option linter.unusedVariables false
set_option linter.unusedSimpArgs false
/-- Whole numbers that came in. -/
def IntsIn (W : World) (ad : Option Addr) (Z : List Int) : Prop := Z = [] ∨ ∃ b o, ad = some ⟨b, o, none⟩ ∧ ∀ k (h : k < Z.length), W.cell? ⟨b, o + k, none⟩ = some (.int .i64 Z[k])
theorem intsin_below {W w : World} {ad : Option Addr} {Z : List Int} (h : IntsIn W ad Z) (hb : Below W.heap.size W w) : IntsIn w ad Z := by
  rcases h with h | ⟨b, o, h1, h2⟩
  · exact .inl h
  · exact .inr ⟨b, o, h1, fun k hk => (hb.cell (p := ⟨b, o + k, none⟩) (World.block_lt_of_cell? W _ (h2 k hk))).trans (h2 k hk)⟩
set_option maxRecDepth 100000 in
theorem ints_of_trod {H : Type} {enc : TypeId × Value → H} {W : World} {sp : Nat → Bool} {hd : Bool} {base : Nat} {v : Value} {d : DataW H} {p : List MemPlace} (hk : Value.okWide Try.prog W .any base 23 v) (h : DataW.Trod enc Try.prog W 0 sp hd 23 v d p) :
    ∃ ad n c Z, v = .slice ad n c ∧ Z.length = n ∧ n ≤ 9223372036854775807 ∧ IntsIn W ad Z ∧ ∀ z ∈ Z, -9223372036854775808 ≤ z ∧ z ≤ 9223372036854775807 := by
  obtain ⟨fuel, h⟩ := h
  obtain ⟨a0, len0, cap0, rfl⟩ := okWide_slice Try.underlying23 hk
  rcases open_ints Try.underlying23 Try.underlying3 cells_int h with ⟨h1, _⟩ | ⟨a, len, cap, zs, h1, _, h2, h3, h4, _, h5, h6⟩
  · simp [Value.cells] at h1
    obtain ⟨rfl, rfl, rfl⟩ := h1
    exact ⟨none, 0, 0, [], rfl, rfl, by decide, .inl rfl, by simp⟩
  · simp [Value.cells] at h1
    obtain ⟨rfl, rfl, rfl⟩ := h1
    have hlen : len0 ≤ zs.length := by rw [h4]; split <;> omega
    refine ⟨some a, len0, cap0, zs.take len0, rfl, by simp; omega, by unfold maxLen at h3; omega, ?_, ?_⟩
    · rcases Nat.eq_zero_or_pos len0 with h0 | h0
      · subst h0; exact .inl (by simp)
      · right
        have hs : a.spot = none := by simpa [Addr.add] using flat_of (h5 0 (by omega))
        obtain ⟨b, o, s⟩ := a
        simp only at hs
        subst hs
        refine ⟨b, o, rfl, fun k hk => ?_⟩
        have hk' : k < len0 := by simp at hk; omega
        have := h5 k (by omega)
        rw [lb.add_flat] at this
        rw [this]
        simp [List.getD, show k < zs.length by omega]
    · intro z hz
      have := h6 z (List.mem_of_mem_take hz)
      simp [Lit.wf, IntKind.min, IntKind.max, IntKind.signed, IntKind.bits] at this
      omega
/-- The outcome of a row. -/
def cod (Z : List Int) (i : Nat) : Nat := if i < Z.length ∧ 0 ≤ Z.getD i 0 then (Z.getD i 0).toNat % 4 else 1
theorem cod_lt (Z : List Int) (i : Nat) : cod Z i < 4 := by unfold cod; split <;> omega
theorem idx_cod (Z : List Int) (i : Nat) : idx (cod Z i : Int) = cod Z i := by
  have := cod_lt Z i
  unfold idx
  rcases (show cod Z i = 0 ∨ cod Z i = 1 ∨ cod Z i = 2 ∨ cod Z i = 3 by omega) with h | h | h | h <;> rw [h] <;> rfl
set_option maxRecDepth 100000 in
theorem code_calls (W : World) (bx n c i : Nat) (ad : Option Addr) (Z : List Int) (hi : i ≤ 1000) (hn : Z.length = n) (hm : n ≤ 9223372036854775807) (hb : W.cell? ⟨bx, 0, none⟩ = some (.slice ad n c)) (hz : IntsIn W ad Z) :
    Calls Try.prog 14 #[.int .i64 (i : Int), .pointer (some ⟨bx, 0, none⟩)] W fun e w' => e = .returned (.int .i64 (cod Z i : Int)) ∧ w' = W := by
  rcases (show i < n ∨ n ≤ i by omega) with h | h
  · have hk : i < Z.length := by omega
    obtain ⟨b, o, rfl, hc⟩ := hz.resolve_left (by intro h0; rw [h0] at hk; cases hk)
    have e := hc i hk
    obtain ⟨z, hzz⟩ : ∃ z, Z[i] = z := ⟨_, rfl⟩
    rw [hzz] at e
    have hg : Z.getD i 0 = z := by simp [List.getD, hk, hzz]
    rcases (show 0 ≤ z ∨ z < 0 by omega) with h0 | h0
    · have hr : (cod Z i : Int) = z % 4 := by
        unfold cod
        rw [hg, if_pos ⟨hk, h0⟩]
        omega
      rw [hr]
      clear hc hzz hg hk hr hz hn
      go_enter Try.func14, Try.ntmps14
      go_wp2
      go_ret
      exact ⟨rfl, rfl⟩
    · have hr : cod Z i = 1 := by unfold cod; rw [hg, if_neg (by omega)]
      rw [hr]
      clear hc hzz hg hk hr hz hn
      go_enter Try.func14, Try.ntmps14
      go_wp2
      go_ret
      exact ⟨rfl, rfl⟩
  · have hr : cod Z i = 1 := by unfold cod; rw [if_neg (by omega)]
    rw [hr]
    clear hr hz hn
    go_enter Try.func14, Try.ntmps14
    go_wp2
    go_ret
    exact ⟨rfl, rfl⟩
/-- The rows that are merged. -/
def keptB (S : List ST) (Z : List Int) (i : Nat) : Bool := decide (cod Z i = 0) && decide ((S.getD i ⟨⟨#[]⟩, 0, 0, 0, 0⟩).act (cod Z i) ≠ 2)
def keptL (S : List ST) (Z : List Int) : Nat → List Nat
  | 0 => []
  | k + 1 => keptL S Z k ++ (if keptB S Z k then [k] else [])
theorem keptL_len (S : List ST) (Z : List Int) : ∀ k, (keptL S Z k).length ≤ k
  | 0 => Nat.le_refl _
  | k + 1 => by
    have := keptL_len S Z k
    rw [keptL, List.length_append]
    split <;> simp <;> omega
def vN (l : List Nat) : List Value := l.map fun (n : Nat) => Value.int .i64 (n : Int)
def vS (l : List ST) : List Value := l.map fun x => .string x.src
end Go.Proofs.Ytgfkgoiaoglhnaa.ac
