/- A name that is clean is clean again. -/
import Derived.Test.YtkjjidmchepjcaaDoorProg
import Derived.WalkKit
import Derived.ProofKit
import Derived.Lib.Hide
import Derived.WalkLawsBesides
import Derived.WalkSpells
import Derived.Deep.RegionWith
import Derived.Test.YtkjjidmchepjcaaDoorNE
namespace Go.Proofs.YtkjjidmchepjcaaDoor.nm
open Go Go.RowKit
set_option linter.unusedVariables false
set_option linter.unusedSimpArgs false
theorem byte_all {p : UInt8 → Bool} (h : ∀ n : Fin 256, p (UInt8.ofNat n.val) = true) (c : UInt8) : p c = true := by
  have := h ⟨c.toNat, c.toNat_lt⟩
  simpa using this
theorem fold_lab (c : UInt8) : labC (foldC c) = labC c := by
  have := byte_all (p := fun c => labC (foldC c) == labC c) (by decide +kernel) c
  simpa using this
theorem fold_fold (c : UInt8) : foldC (foldC c) = foldC c := by
  have := byte_all (p := fun c => foldC (foldC c) == foldC c) (by decide +kernel) c
  simpa using this
theorem fold_dot (c : UInt8) : (foldC c == 46) = (c == 46) := by
  have := byte_all (p := fun c => (foldC c == 46) == (c == 46)) (by decide +kernel) c
  simpa using this
theorem foldL_foldL (l : List UInt8) : foldL (foldL l) = foldL l := by
  unfold foldL
  rw [List.map_map]
  exact List.map_congr_left fun c _ => fold_fold c
theorem spl_fold : ∀ l : List UInt8, spl 46 (foldL l) = (spl 46 l).map foldL
  | [] => rfl
  | x :: l => by
    have ih := spl_fold l
    have hl : foldL (x :: l) = foldC x :: foldL l := rfl
    rw [hl]
    by_cases h : (x == 46) = true
    · have hx : x = 46 := by simpa using h
      subst hx
      have hf : foldC 46 = 46 := by decide
      rw [hf, spl_hit, spl_hit, ih]
      rfl
    · have h' : (x == 46) = false := by simpa using h
      obtain ⟨p, ps, h1, h2⟩ := spl_cons 46 x l h'
      have hf : (foldC x == 46) = false := by rw [fold_dot]; exact h'
      obtain ⟨q, qs, h3, h4⟩ := spl_cons 46 (foldC x) (foldL l) hf
      rw [h2, h4]
      rw [ih, h1] at h3
      simp only [List.map_cons, List.cons.injEq] at h3
      obtain ⟨rfl, rfl⟩ := h3
      rfl
theorem label_fold (p : List UInt8) : labelB (foldL p) = labelB p := by
  unfold labelB foldL
  rw [List.all_map, List.length_map]
  have h1 : (labC ∘ foldC) = labC := by funext c; exact fold_lab c
  rw [h1]
  cases p <;> rfl
theorem okN_fold (n : List UInt8) : okN (foldL n) = okN n := by
  unfold okN
  rw [spl_fold, List.all_map]
  have h1 : (labelB ∘ foldL) = labelB := by funext p; exact label_fold p
  rw [h1]
  have h2 : (foldL n).length = n.length := by simp [foldL]
  rw [h2]
  cases n <;> rfl
theorem root_dot (n : List UInt8) : root (n ++ [46]) = (n, true) := by
  unfold root
  rw [if_pos (by simp)]
  simp
theorem clean_some {l n : List UInt8} {r : Bool} (h : cleanL l = (n, r, true)) : ∃ m, okN m = true ∧ n = foldL m ∧ root l = (m, r) := by
  unfold cleanL at h
  split at h
  · rename_i hok
    simp only [Prod.mk.injEq, and_true] at h
    exact ⟨(root l).1, hok, h.1.symm, by rw [← h.2]⟩
  · simp at h
theorem okN_len {n : List UInt8} (h : okN n = true) : 0 < n.length ∧ n.length ≤ 253 ∧ (spl 46 n).all labelB = true := by
  unfold okN at h
  simp only [Bool.and_eq_true, Bool.not_eq_true', decide_eq_true_eq] at h
  refine ⟨?_, h.1.2, h.2⟩
  rcases n with _ | ⟨x, n⟩
  · simp at h
  · simp
theorem clean_again {l n : List UInt8} {r : Bool} (h : cleanL l = (n, r, true)) : cleanL (n ++ [46]) = (n, true, true) ∧ n.length ≤ 253 := by
  obtain ⟨m, h1, rfl, h3⟩ := clean_some h
  have h2 := okN_len h1
  refine ⟨?_, by have : (foldL m).length = m.length := by (simp [foldL])
                 omega⟩
  rw [clean_yes (by rw [root_dot, okN_fold]; exact h1), root_dot, foldL_foldL]
theorem bsl_app (a b : List UInt8) : bsl a ++ bsl b = bsl (a ++ b) := by
  apply ByteArray.ext
  simp
theorem clean_fail {l : List UInt8} : (∃ n r, cleanL l = (n, r, true)) ∨ cleanL l = ([], false, false) := by
  by_cases h : okN (root l).1 = true
  · exact .inl ⟨_, _, clean_yes h⟩
  · exact .inr (clean_no (by simpa using h))
end Go.Proofs.YtkjjidmchepjcaaDoor.nm
