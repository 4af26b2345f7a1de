/- conciergelaw21.CutEntry: an entry that is not too great. -/
import Derived.Test.YtgfkgoiaoglhnaaProg
import Derived.WalkKit
import Derived.ProofKit
import Derived.Lib.Hide
import Derived.WalkLawsBesides
import Derived.WalkSpells
import Derived.Deep.RegionWith
import Derived.Deep.DeepCutAuto
import Derived.Deep.CutBlock
import Derived.Test.YtgfkgoiaoglhnaaJD
import Derived.Test.YtgfkgoiaoglhnaaAA
namespace Go.Proofs.Ytgfkgoiaoglhnaa.jr
open Go Go.RowKit
set_option linter.unusedVariables false
set_option linter.unusedSimpArgs false
theorem results_cell1 {P : Program} {fn : Func} {p : Tmp} {ty : TypeId} (hf : fn.results = #[.cell p ty]) (tmps : Array Value) (w : World) (g : Nat) (t : TypeId) (cs : Array Value) (fr : Nat × Nat) (d : TypeDesc)
    (hp : tmps.getD p undef = .pointer (some ⟨g, 0, none⟩)) (hg : w.heap[g]? = some (.cells cs t fr))
    (hu : P.underlying ty = some d) (hd : (match d with | .struct _ | .array _ _ => true | _ => false) = true) (hi : (P.info? ty).map (·.size) = some cs.size) :
    (results fn tmps).run P w = .ok (.agg cs) w := by
  have hp' : tmps[p]?.getD undef = .pointer (some ⟨g, 0, none⟩) := by simpa using hp
  simp [results, hf, hp', asAddr, run_loadVar_row w g t ty cs fr d hg hu hd hi]
def cutT (X : List ByteArray) : List ByteArray := (X.take 5).map fun s => ac.cutS s 40
def cutD (D : List (ByteArray × Int)) : List (ByteArray × Int) := (D.take 3).map fun d => (ac.cutS d.1 40, d.2)
def cutE (e : En) : En := ⟨ac.cutS e.key 300, e.code, cutT e.names, cutT e.addrs, e.port, e.life, e.exp, cutD e.deps⟩
/-- What fits an entry that came in. -/
structure EnBig (e : En) : Prop where
  key : e.key.size ≤ 9223372036854775807
  names : ∀ s ∈ e.names, s.size ≤ 9223372036854775807
  addrs : ∀ s ∈ e.addrs, s.size ≤ 9223372036854775807
  deps : ∀ d ∈ e.deps, d.1.size ≤ 9223372036854775807 ∧ -9223372036854775808 ≤ d.2 ∧ d.2 ≤ 9223372036854775807
  ln : e.names.length ≤ 9223372036854775807
  la : e.addrs.length ≤ 9223372036854775807
  ld : e.deps.length ≤ 9223372036854775807
  nums : ∀ x ∈ nums e, -9223372036854775808 ≤ x ∧ x ≤ 9223372036854775807
theorem cutT_size (X : List ByteArray) : ∀ s ∈ cutT X, s.size ≤ 40 := by
  intro s hs
  obtain ⟨u, _, rfl⟩ := List.mem_map.1 hs
  exact ac.cutS_size _ _
theorem cutT_len (X : List ByteArray) : (cutT X).length ≤ 5 := by simp [cutT]; omega
theorem cutE_ok (e : En) (h : EnBig e) : EnOk (cutE e) := by
  refine ⟨?_, ?_, ?_, ?_, ?_, ?_, ?_, ?_, ?_⟩
  · have := ac.cutS_size e.key 300
    show (ac.cutS e.key 300).size ≤ 1000; omega
  · intro s hs; have := cutT_size _ s hs; omega
  · intro s hs; have := cutT_size _ s hs; omega
  · intro d hd
    obtain ⟨u, _, rfl⟩ := List.mem_map.1 hd
    have := ac.cutS_size u.1 40
    show (ac.cutS u.1 40).size ≤ 1000; omega
  · have := cutT_len e.names; show (cutT e.names).length ≤ 1000; omega
  · have := cutT_len e.addrs; show (cutT e.addrs).length ≤ 1000; omega
  · show ((e.deps.take 3).map _).length ≤ 1000; simp; omega
  · exact h.nums
  · intro d hd
    obtain ⟨u, hu, rfl⟩ := List.mem_map.1 hd
    exact (h.deps u (List.mem_of_mem_take hu)).2
/-- An entry whose rows are the call's own. -/
def OwnE (W w : World) (e : En) (v : Value) : Prop := ∃ v1 v2 v3, v = .agg #[.string e.key, .int .i64 e.code, v1, v2, .int .i64 e.port, .int .i64 e.life, .int .i64 e.exp, v3] ∧
  w.ownsRow W.heap.size 9 1 v1 e.names.length (e.names.map Value.string) ∧ w.ownsRow W.heap.size 9 1 v2 e.addrs.length (e.addrs.map Value.string) ∧ w.ownsRow W.heap.size 120 2 v3 e.deps.length (e.deps.flatMap depC)
theorem own_cap {w : World} {B e s n c : Nat} {ad : Option Addr} {xs : List Value} (h : w.ownsRow B e s (.slice ad n c) n xs) : n ≤ c := by
  rcases h.2 with ⟨h1, h2, h3⟩ | ⟨g, cap, cur, h1, _, _, h2, _⟩
  · cases h1; exact Nat.le_refl _
  · cases h1; exact h2
theorem texts_own {w : World} {B : Nat} {v : Value} {X : List ByteArray} (h : w.ownsRow B 9 1 v X.length (X.map Value.string)) : ∃ ad c, v = .slice ad X.length c ∧ X.length ≤ c ∧ TextsIn w ad X := by
  obtain ⟨ad, c, rfl⟩ := lb.own_shape h
  refine ⟨ad, c, rfl, own_cap h, ?_⟩
  rcases Nat.eq_zero_or_pos X.length with h0 | h0
  · exact .inl (List.eq_nil_of_length_eq_zero h0)
  · obtain ⟨g, c', hg⟩ := lb.row_addr h h0
    cases hg
    refine .inr ⟨g, 0, rfl, fun k hk => ?_⟩
    rw [Nat.zero_add, lb.row_at h hk]
    simp [hk]
theorem dep_get (D : List (ByteArray × Int)) : ∀ k (h : k < D.length), (D.flatMap depC)[k * 2]? = some (.string (D[k]).1) ∧ (D.flatMap depC)[k * 2 + 1]? = some (.int .i64 (D[k]).2) := by
  induction D with
  | nil => intro k h; cases h
  | cons d D ih =>
    intro k h
    cases k with
    | zero => exact ⟨rfl, rfl⟩
    | succ k =>
      obtain ⟨h1, h2⟩ := ih k (by simpa using h)
      have e1 : (k + 1) * 2 = k * 2 + 2 := by omega
      rw [e1]
      exact ⟨h1, h2⟩
theorem dep_len (D : List (ByteArray × Int)) : (D.flatMap depC).length = D.length * 2 := by
  induction D with
  | nil => rfl
  | cons d D ih => rw [List.flatMap_cons, List.length_append, ih, List.length_cons]; show 2 + _ = _; omega
theorem deps_own {w : World} {B : Nat} {v : Value} {D : List (ByteArray × Int)} (h : w.ownsRow B 120 2 v D.length (D.flatMap depC)) : ∃ ad c, v = .slice ad D.length c ∧ D.length ≤ c ∧ DepsIn w ad D := by
  obtain ⟨ad, c, rfl⟩ := lb.own_shape h
  refine ⟨ad, c, rfl, own_cap h, ?_⟩
  rcases Nat.eq_zero_or_pos D.length with h0 | h0
  · exact .inl (List.eq_nil_of_length_eq_zero h0)
  · obtain ⟨g, c', hg⟩ := lb.row_addr h h0
    cases hg
    refine .inr ⟨g, 0, rfl, fun k hk => ?_⟩
    have h1 := h.cellAt (k * 2) (by omega)
    have h2 := h.cellAt (k * 2 + 1) (by omega)
    rw [Nat.zero_add]
    exact ⟨h1.trans (dep_get D k hk).1, h2.trans (dep_get D k hk).2⟩
theorem put_own (W w : World) (e : En) (v : Value) (hk : EnOk e) (h : OwnE W w e v) :
    Calls Try.prog 32 #[v] w fun en w' => ∃ u, en = .returned u ∧ w'.ownsRow w.heap.size 5 1 u (putL e).length (lb.vB (putL e)) ∧ Below w.heap.size w w' := by
  obtain ⟨v1, v2, v3, rfl, h1, h2, h3⟩ := h
  obtain ⟨a1, c1, rfl, l1, t1⟩ := texts_own h1
  obtain ⟨a2, c2, rfl, l2, t2⟩ := texts_own h2
  obtain ⟨a3, c3, rfl, l3, t3⟩ := deps_own h3
  exact put_entry w e a1 a2 a3 _ c1 _ c2 _ c3 hk ⟨rfl, rfl, rfl, l1, l2, l3, t1, t2, t3⟩
end Go.Proofs.Ytgfkgoiaoglhnaa.jr
