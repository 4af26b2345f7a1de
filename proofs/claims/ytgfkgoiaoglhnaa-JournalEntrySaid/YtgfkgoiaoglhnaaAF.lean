/- A slice of steps that came in, opened. -/
import Derived.Test.YtgfkgoiaoglhnaaProg
import Derived.WalkKit
import Derived.ProofKit
import Derived.Lib.Hide
import Derived.WalkLawsBesides
import Derived.WalkSpells
import Derived.Deep.RegionWith
import Derived.OpenShut
import Derived.ChangeSlices
import Derived.SliceStrings
import Derived.Deep.Slices
import Derived.Test.YtgfkgoiaoglhnaaAE
namespace Go.Proofs.Ytgfkgoiaoglhnaa.ac
open Go Go.RowKit Go.ChangeShapes Go.WideShapes
set_option linter.unusedVariables false
set_option linter.unusedSimpArgs false
set_option maxRecDepth 100000 in
theorem cells_step : Try.prog.cellsOf 37 = 5 := by kernel_rfl
set_option maxRecDepth 100000 in
theorem cells_arr : Try.prog.cellsOf 35 = 4 := by kernel_rfl
set_option maxRecDepth 100000 in
theorem cells_int : Try.prog.cellsOf 3 = 1 := by kernel_rfl
set_option maxRecDepth 100000 in
theorem cells_str : Try.prog.cellsOf 9 = 1 := by kernel_rfl
theorem flat_of {w : World} {a : Addr} {v : Value} (h : w.cell? a = some v) : a.spot = none := by
  unfold World.cell? at h
  obtain ⟨b, o, s⟩ := a
  split at h
  · cases s <;> simp_all
  · cases h
section
variable {H : Type} {enc : TypeId × Value → H} {W : World} {sp : Nat → Bool} {hd : Bool} {base : Nat}
set_option maxRecDepth 100000 in
theorem step_of_trod {n : Nat} {cs : List Value} {x : DataW H × List MemPlace} (h : DataW.trod enc Try.prog W base sp hd n 37 cs = some x) : ∃ y : ST, cs = stCells y ∧ y.src.size ≤ maxLen := by
  obtain ⟨y0, y1, m, _, hl, h0, h1⟩ := trod_struct2 Try.underlying37 h
  rw [cells_step] at hl
  match cs, hl with
  | [c0, c1, c2, c3, c4], _ =>
    simp only [cells_str, cells_arr, List.drop_zero, List.drop_succ_cons, List.take_succ_cons, List.take_zero] at h0 h1
    obtain ⟨s, hs, _, hsz⟩ := DataW.trod_string Try.underlying9 h0
    obtain ⟨xs, m2, _, _, _, hxl, ha⟩ := DataW.trod_array Try.underlying35 h1
    have hk : ∀ i, i < 4 → ∃ z : Int, ([c1, c2, c3, c4].drop i).take 1 = [.int .i64 z] := by
      intro i hi
      have := ha i hi
      rw [cells_int, Nat.mul_one, List.getElem?_eq_getElem (by omega)] at this
      obtain ⟨z, hz, _⟩ := DataW.trod_int Try.underlying3 this
      exact ⟨z, hz⟩
    obtain ⟨z0, e0⟩ := hk 0 (by omega)
    obtain ⟨z1, e1⟩ := hk 1 (by omega)
    obtain ⟨z2, e2⟩ := hk 2 (by omega)
    obtain ⟨z3, e3⟩ := hk 3 (by omega)
    simp at hs e0 e1 e2 e3
    subst hs e0 e1 e2 e3
    exact ⟨⟨s, z0, z1, z2, z3⟩, rfl, hsz⟩
set_option maxRecDepth 100000 in
theorem steps_of_trod {v : Value} {d : DataW H} {p : List MemPlace} (hk : Value.okWide Try.prog W .any base 22 v) (h : DataW.Trod enc Try.prog W 0 sp hd 22 v d p) :
    ∃ ad n c S, v = .slice ad n c ∧ S.length = n ∧ n ≤ 9223372036854775807 ∧ (∀ x ∈ S, x.src.size ≤ 9223372036854775807) ∧ StepsIn W ad S := by
  obtain ⟨fuel, h⟩ := h
  obtain ⟨a0, len0, cap0, rfl⟩ := okWide_slice Try.underlying22 hk
  rcases Go.Deep.open_slice Try.underlying22 h with ⟨h1, _⟩ | ⟨a, len, cap, m, n, D, Pl, h1, _, h2, h3, h4, _, h5⟩
  · simp [Value.cells] at h1
    obtain ⟨rfl, rfl, rfl⟩ := h1
    exact ⟨none, 0, 0, [], rfl, rfl, by decide, by simp, .inl rfl⟩
  · simp [Value.cells] at h1
    obtain ⟨rfl, rfl, rfl⟩ := h1
    have hlm : len0 ≤ m := by rw [h4]; split <;> omega
    have hex : ∀ i, i < len0 → ∃ y : ST, (∀ j, j < 5 → W.cell? ((a.add (i * 5)).add j) = (stCells y)[j]?) ∧ y.src.size ≤ maxLen := by
      intro i hi
      obtain ⟨cs', g1, g2⟩ := h5 i (by omega)
      rw [cells_step] at g1
      obtain ⟨_, gl, gc⟩ := World.cells?_some g1
      obtain ⟨y, hy, hs⟩ := step_of_trod g2
      exact ⟨y, fun j hj => by rw [gc j (by omega), hy], hs⟩
    have : Inhabited ST := ⟨⟨⟨#[]⟩, 0, 0, 0, 0⟩⟩
    obtain ⟨f, hf⟩ := Go.Deep.choose_lt hex
    refine ⟨some a, len0, cap0, (List.range len0).map f, rfl, by simp, by unfold maxLen at h3; omega, ?_, ?_⟩
    · intro x hx
      obtain ⟨i, hi, rfl⟩ := List.mem_map.1 hx
      have := (hf i (List.mem_range.1 hi)).2
      unfold maxLen at this
      omega
    · rcases Nat.eq_zero_or_pos len0 with h0 | h0
      · subst h0; exact .inl rfl
      · right
        have hc0 := (hf 0 h0).1 0 (by omega)
        have hs : a.spot = none := by
          have := flat_of (hc0.trans (show (stCells (f 0))[0]? = some _ from rfl))
          simpa [Addr.add] using this
        obtain ⟨b, o, s⟩ := a
        simp only at hs
        subst hs
        refine ⟨b, o, rfl, fun k hk j hj => ?_⟩
        have hk' : k < len0 := by simpa using hk
        have := (hf k hk').1 j hj
        rw [lb.add_flat, lb.add_flat] at this
        rw [this]
        simp
end
theorem stepsin_below {W w : World} {ad : Option Addr} {S : List ST} (h : StepsIn W ad S) (hb : Below W.heap.size W w) : StepsIn w ad S := by
  rcases h with h | ⟨b, o, h1, h2⟩
  · exact .inl h
  · refine .inr ⟨b, o, h1, fun k hk j hj => ?_⟩
    have := h2 k hk j hj
    have h5 : (stCells S[k])[j]? = some ((stCells S[k])[j]'(by simp [stCells]; omega)) := List.getElem?_eq_getElem _
    exact (hb.cell (p := ⟨b, o + k * 5 + j, none⟩) (World.block_lt_of_cell? W _ (this.trans h5))).trans this
end Go.Proofs.Ytgfkgoiaoglhnaa.ac
