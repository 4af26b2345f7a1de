/- A row of texts that came in, opened. -/
import Derived.Test.YtgfkgoiaoglhnaaProg
import Derived.WalkKit
import Derived.ProofKit
import Derived.Lib.Hide
import Derived.WalkLawsBesides
import Derived.WalkSpells
import Derived.Deep.RegionWith
import Derived.OpenShut
import Derived.ChangeSlices
import Derived.SliceStrings
import Derived.Deep.Slices
import Derived.Test.YtgfkgoiaoglhnaaJK
import Derived.Test.YtgfkgoiaoglhnaaAF
namespace Go.Proofs.Ytgfkgoiaoglhnaa.jr
open Go Go.RowKit Go.ChangeShapes Go.WideShapes
set_option linter.unusedVariables false
set_option linter.unusedSimpArgs false
set_option maxRecDepth 100000 in
theorem cells_str1 : Try.prog.cellsOf 9 = 1 := by kernel_rfl
section
variable {H : Type} {enc : TypeId × Value → H} {W : World} {sp : Nat → Bool} {hd : Bool} {base : Nat}
theorem texts_open {n : Nat} {cs : List Value} {x : DataW H × List MemPlace} (h : DataW.trod enc Try.prog W base sp hd n 34 cs = some x) :
    ∃ ad m c X, cs = [.slice ad m c] ∧ X.length = m ∧ m ≤ c ∧ m ≤ 9223372036854775807 ∧ (∀ s ∈ X, s.size ≤ 9223372036854775807) ∧ TextsIn W ad X := by
  rcases open_strings Try.underlying34 Try.underlying9 cells_str1 h with ⟨rfl, _⟩ | ⟨a, len, cap, ss, rfl, _, h1, h2, h3, _, h4, h5⟩
  · exact ⟨none, 0, 0, [], rfl, rfl, Nat.le_refl _, by decide, by simp, .inl rfl⟩
  · have hle : len ≤ ss.length := by rw [h3]; split <;> omega
    unfold maxLen at h2
    refine ⟨some a, len, cap, ss.take len, rfl, by simp; omega, h1, by omega, ?_, ?_⟩
    · intro s hs
      have := h5 s (List.mem_of_mem_take hs)
      unfold maxLen at this
      omega
    · rcases Nat.eq_zero_or_pos len with h0 | h0
      · subst h0; exact .inl (by simp)
      · right
        have hs : a.spot = none := by
          have h6 := ac.flat_of (h4 0 (by omega))
          simpa [Addr.add] using h6
        obtain ⟨b, o, s⟩ := a
        simp only at hs
        subst hs
        refine ⟨b, o, rfl, fun k hk => ?_⟩
        have hk' : k < len := by simp at hk; omega
        have h6 := h4 k (by omega)
        rw [lb.add_flat] at h6
        rw [h6]
        simp [List.getD, List.getElem?_eq_getElem (show k < ss.length by omega)]
end
end Go.Proofs.Ytgfkgoiaoglhnaa.jr
