/- An entry that came in, opened. -/
import Derived.Test.YtgfkgoiaoglhnaaProg
import Derived.WalkKit
import Derived.ProofKit
import Derived.Lib.Hide
import Derived.WalkLawsBesides
import Derived.WalkSpells
import Derived.Deep.RegionWith
import Derived.OpenShut
import Derived.ChangeSlices
import Derived.SliceStrings
import Derived.Deep.Slices
import Derived.Test.YtgfkgoiaoglhnaaJU
namespace Go.Proofs.Ytgfkgoiaoglhnaa.jr
open Go Go.RowKit Go.ChangeShapes Go.WideShapes
set_option linter.unusedVariables false
set_option linter.unusedSimpArgs false
set_option maxRecDepth 100000 in
theorem cells_dep : Try.prog.cellsOf 120 = 2 := by kernel_rfl
set_option maxRecDepth 100000 in
theorem cells_entry : Try.prog.cellsOf 64 = 8 := by kernel_rfl
set_option maxRecDepth 100000 in
theorem cells_answer : Try.prog.cellsOf 61 = 4 := by kernel_rfl
set_option maxRecDepth 100000 in
theorem cells_code : Try.prog.cellsOf 32 = 1 := by kernel_rfl
set_option maxRecDepth 100000 in
theorem cells_int1 : Try.prog.cellsOf 3 = 1 := by kernel_rfl
set_option maxRecDepth 100000 in
theorem cells_i64 : Try.prog.cellsOf 2 = 1 := by kernel_rfl
set_option maxRecDepth 100000 in
theorem cells_strs : Try.prog.cellsOf 34 = 1 := by kernel_rfl
set_option maxRecDepth 100000 in
theorem cells_deps : Try.prog.cellsOf 62 = 1 := by kernel_rfl
theorem wf_i64 {n : Int} (h : (Lit.int .i64 n).wf = true) : -9223372036854775808 ≤ n ∧ n ≤ 9223372036854775807 := by
  simp [Lit.wf, IntKind.min, IntKind.max, IntKind.signed, IntKind.bits] at h
  omega
section
variable {H : Type} {enc : TypeId × Value → H} {W : World} {sp : Nat → Bool} {hd : Bool} {base : Nat}
theorem trod_struct5 {t : TypeId} {f0 f1 f2 f3 f4 : Field} {fuel : Nat} {cs : List Value} {x : DataW H × List MemPlace} (ht : Try.prog.underlying t = some (.struct #[f0, f1, f2, f3, f4])) (h : DataW.trod enc Try.prog W base sp hd fuel t cs = some x) :
    ∃ y0 y1 y2 y3 y4 n, cs.length = Try.prog.cellsOf t ∧ DataW.trod enc Try.prog W base sp hd n f0.type ((cs.drop f0.offset).take (Try.prog.cellsOf f0.type)) = some y0 ∧
      DataW.trod enc Try.prog W base sp hd n f1.type ((cs.drop f1.offset).take (Try.prog.cellsOf f1.type)) = some y1 ∧ DataW.trod enc Try.prog W base sp hd n f2.type ((cs.drop f2.offset).take (Try.prog.cellsOf f2.type)) = some y2 ∧
      DataW.trod enc Try.prog W base sp hd n f3.type ((cs.drop f3.offset).take (Try.prog.cellsOf f3.type)) = some y3 ∧ DataW.trod enc Try.prog W base sp hd n f4.type ((cs.drop f4.offset).take (Try.prog.cellsOf f4.type)) = some y4 := by
  obtain ⟨xs, n, _, rfl, hl, hlen, hf⟩ := DataW.trod_struct ht h
  match xs, hlen with
  | [y0, y1, y2, y3, y4], _ => exact ⟨y0, y1, y2, y3, y4, n, hl, by simpa using hf 0 f0 rfl, by simpa using hf 1 f1 rfl, by simpa using hf 2 f2 rfl, by simpa using hf 3 f3 rfl, by simpa using hf 4 f4 rfl⟩
theorem trod_struct4' {t : TypeId} {f0 f1 f2 f3 : Field} {fuel : Nat} {cs : List Value} {x : DataW H × List MemPlace} (ht : Try.prog.underlying t = some (.struct #[f0, f1, f2, f3])) (h : DataW.trod enc Try.prog W base sp hd fuel t cs = some x) :
    ∃ y0 y1 y2 y3 n, cs.length = Try.prog.cellsOf t ∧ DataW.trod enc Try.prog W base sp hd n f0.type ((cs.drop f0.offset).take (Try.prog.cellsOf f0.type)) = some y0 ∧
      DataW.trod enc Try.prog W base sp hd n f1.type ((cs.drop f1.offset).take (Try.prog.cellsOf f1.type)) = some y1 ∧ DataW.trod enc Try.prog W base sp hd n f2.type ((cs.drop f2.offset).take (Try.prog.cellsOf f2.type)) = some y2 ∧
      DataW.trod enc Try.prog W base sp hd n f3.type ((cs.drop f3.offset).take (Try.prog.cellsOf f3.type)) = some y3 := by
  obtain ⟨xs, n, _, rfl, hl, hlen, hf⟩ := DataW.trod_struct ht h
  match xs, hlen with
  | [y0, y1, y2, y3], _ => exact ⟨y0, y1, y2, y3, n, hl, by simpa using hf 0 f0 rfl, by simpa using hf 1 f1 rfl, by simpa using hf 2 f2 rfl, by simpa using hf 3 f3 rfl⟩
set_option maxRecDepth 100000 in
theorem dep_open {n : Nat} {cs : List Value} {x : DataW H × List MemPlace} (h : DataW.trod enc Try.prog W base sp hd n 120 cs = some x) : ∃ d : ByteArray × Int, cs = depC d ∧ d.1.size ≤ 9223372036854775807 ∧ -9223372036854775808 ≤ d.2 ∧ d.2 ≤ 9223372036854775807 := by
  obtain ⟨y0, y1, m, _, hl, h0, h1⟩ := trod_struct2 Try.underlying120 h
  rw [cells_dep] at hl
  match cs, hl with
  | [c0, c1], _ =>
    simp only [cells_str1, cells_i64, List.drop_zero, List.drop_succ_cons, List.take_succ_cons, List.take_zero] at h0 h1
    obtain ⟨s, hs, _, hsz⟩ := DataW.trod_string Try.underlying9 h0
    obtain ⟨z, hz, _, hw⟩ := DataW.trod_int Try.underlying2 h1
    simp at hs hz
    subst hs hz
    unfold maxLen at hsz
    exact ⟨(s, z), rfl, by show s.size ≤ _; omega, wf_i64 hw⟩
set_option maxRecDepth 100000 in
theorem deps_open {n : Nat} {cs : List Value} {x : DataW H × List MemPlace} (h : DataW.trod enc Try.prog W base sp hd n 62 cs = some x) :
    ∃ ad m c D, cs = [.slice ad m c] ∧ D.length = m ∧ m ≤ c ∧ m ≤ 9223372036854775807 ∧ (∀ d ∈ D, d.1.size ≤ 9223372036854775807 ∧ -9223372036854775808 ≤ d.2 ∧ d.2 ≤ 9223372036854775807) ∧ DepsIn W ad D := by
  rcases Go.Deep.open_slice Try.underlying62 h with ⟨rfl, _⟩ | ⟨a, len0, cap0, m, n, D, Pl, rfl, _, h2, h3, h4, _, h5⟩
  · exact ⟨none, 0, 0, [], rfl, rfl, Nat.le_refl _, by decide, by simp, .inl rfl⟩
  · have hlm : len0 ≤ m := by rw [h4]; split <;> omega
    have hex : ∀ i, i < len0 → ∃ y : ByteArray × Int, (∀ j, j < 2 → W.cell? ((a.add (i * 2)).add j) = (depC y)[j]?) ∧ (y.1.size ≤ 9223372036854775807 ∧ -9223372036854775808 ≤ y.2 ∧ y.2 ≤ 9223372036854775807) := by
      intro i hi
      obtain ⟨cs', g1, g2⟩ := h5 i (by omega)
      rw [cells_dep] at g1
      obtain ⟨_, gl, gc⟩ := World.cells?_some g1
      obtain ⟨y, hy, hs⟩ := dep_open g2
      exact ⟨y, fun j hj => by rw [gc j (by omega), hy], hs⟩
    have : Inhabited (ByteArray × Int) := ⟨(⟨#[]⟩, 0)⟩
    obtain ⟨f, hf⟩ := Go.Deep.choose_lt hex
    unfold maxLen at h3
    refine ⟨some a, len0, cap0, (List.range len0).map f, rfl, by simp, h2, by omega, ?_, ?_⟩
    · intro x hx
      obtain ⟨i, hi, rfl⟩ := List.mem_map.1 hx
      exact (hf i (List.mem_range.1 hi)).2
    · rcases Nat.eq_zero_or_pos len0 with h0 | h0
      · subst h0; exact .inl rfl
      · right
        have hc0 := (hf 0 h0).1 0 (by omega)
        have hs : a.spot = none := by
          have := ac.flat_of (hc0.trans (show (depC (f 0))[0]? = some _ from rfl))
          simpa [Addr.add] using this
        obtain ⟨b, o, s⟩ := a
        simp only at hs
        subst hs
        refine ⟨b, o, rfl, fun k hk => ?_⟩
        have hk' : k < len0 := by simpa using hk
        have e0 := (hf k hk').1 0 (by omega)
        have e1 := (hf k hk').1 1 (by omega)
        rw [lb.add_flat, lb.add_flat] at e0 e1
        rw [Nat.add_zero] at e0
        rw [e0, e1]
        simp [depC]
set_option maxRecDepth 100000 in
theorem entry_open {v : Value} {d : DataW H} {p : List MemPlace} (hk : Value.okWide Try.prog W .any base 64 v) (h : DataW.Trod enc Try.prog W 0 sp hd 64 v d p) :
    ∃ e a1 a2 a3 n1 c1 n2 c2 n3 c3, v.cells.toList = (enCells e a1 a2 a3 n1 c1 n2 c2 n3 c3).toList ∧ EnBig e ∧ EnAt W e a1 a2 a3 n1 c1 n2 c2 n3 c3 := by
  obtain ⟨fuel, h⟩ := h
  obtain ⟨y0, y1, y2, y3, y4, m, hl, h0, h1, h2, h3, h4⟩ := trod_struct5 Try.underlying64 h
  rw [cells_entry] at hl
  generalize v.cells.toList = cs at *
  match cs, hl with
  | [k0, k1, k2, k3, k4, k5, k6, k7], _ =>
    simp only [cells_str1, cells_code, cells_answer, cells_i64, cells_deps, List.drop_zero, List.drop_succ_cons, List.take_succ_cons, List.take_zero] at h0 h1 h2 h3 h4
    obtain ⟨u0, u1, u2, u3, m2, _, g0, g1, g2, g3⟩ := trod_struct4' Try.underlying61 h2
    simp only [cells_strs, cells_int1, cells_i64, List.drop_zero, List.drop_succ_cons, List.take_succ_cons, List.take_zero] at g0 g1 g2 g3
    obtain ⟨s, hs, _, hsz⟩ := DataW.trod_string Try.underlying9 h0
    obtain ⟨z1, hz1, _, w1⟩ := DataW.trod_int Try.underlying32 h1
    obtain ⟨z2, hz2, _, w2⟩ := DataW.trod_int Try.underlying3 g2
    obtain ⟨z3, hz3, _, w3⟩ := DataW.trod_int Try.underlying2 g3
    obtain ⟨z4, hz4, _, w4⟩ := DataW.trod_int Try.underlying2 h3
    obtain ⟨b1, n1, c1, X1, e1, l1, q1, r1, t1, i1⟩ := texts_open g0
    obtain ⟨b2, n2, c2, X2, e2, l2, q2, r2, t2, i2⟩ := texts_open g1
    obtain ⟨b3, n3, c3, D, e3, l3, q3, r3, t3, i3⟩ := deps_open h4
    simp at hs hz1 hz2 hz3 hz4 e1 e2 e3
    subst hs hz1 hz2 hz3 hz4 e1 e2 e3
    unfold maxLen at hsz
    refine ⟨⟨s, z1, X1, X2, z2, z3, z4, D⟩, b1, b2, b3, n1, c1, n2, c2, n3, c3, rfl, ⟨by show s.size ≤ _; omega, t1, t2, t3, by show X1.length ≤ _; omega, by show X2.length ≤ _; omega, by show D.length ≤ _; omega, ?_⟩, ⟨l1, l2, l3, q1, q2, q3, i1, i2, i3⟩⟩
    intro x hx
    simp only [nums, List.mem_cons, List.not_mem_nil, or_false] at hx
    have := wf_i64 w1
    have := wf_i64 w2
    have := wf_i64 w3
    have := wf_i64 w4
    rcases hx with rfl | rfl | rfl | rfl <;> omega
set_option maxRecDepth 100000 in
theorem entry_arg {v : Value} {d : DataW H} {p : List MemPlace} (hk : Value.okWide Try.prog W .any base 64 v) (h : DataW.Trod enc Try.prog W 0 sp hd 64 v d p) :
    ∃ e a1 a2 a3 n1 c1 n2 c2 n3 c3, v = .agg (enCells e a1 a2 a3 n1 c1 n2 c2 n3 c3) ∧ EnBig e ∧ EnAt W e a1 a2 a3 n1 c1 n2 c2 n3 c3 := by
  obtain ⟨cs, rfl, _⟩ := okWide_struct Try.underlying64 hk
  obtain ⟨e, a1, a2, a3, n1, c1, n2, c2, n3, c3, hc, hb, ha⟩ := entry_open hk h
  refine ⟨e, a1, a2, a3, n1, c1, n2, c2, n3, c3, ?_, hb, ha⟩
  have : cs = enCells e a1 a2 a3 n1 c1 n2 c2 n3 c3 := Array.toList_inj.1 hc
  rw [this]
end
end Go.Proofs.Ytgfkgoiaoglhnaa.jr
