/- An append of zeros (append(b, make([]byte, k)...)) to a row of bytes of the call's own. -/
import Derived.Test.YtkjjidmchepjcaaDoorProg
import Derived.WalkKit
import Derived.ProofKit
import Derived.Lib.Hide
import Derived.WalkLawsBesides
import Derived.WalkSpells
import Derived.Deep.RegionWith
import Derived.Laws.AppendOwn
import Derived.Test.YtkjjidmchepjcaaDoorLB
namespace Go.Proofs.YtkjjidmchepjcaaDoor.lb
open Go Go.RowKit Go.ChangeShapes Go.WideShapes
set_option linter.unusedVariables false
set_option linter.unusedSimpArgs false
theorem zero_cells (k : Nat) : (Builtin.zeroCells #[Value.int .u8 0] k).toList = vB (List.replicate k 0) := by
  unfold Builtin.zeroCells vB
  rw [List.map_replicate]
  apply List.ext_getElem
  · simp
  · intro j h1 h2
    simp
    rw [Nat.mod_one]
    rfl
section
variable {P : Program} (w : World)
theorem zeros_room (t u ty e : TypeId) (i : TypeInfo) (ht : P.underlying t = some (.slice e)) (hu : P.underlying u = some (.int .i64)) (hi : P.info? e = some i) (hz : i.zero = some (.int .u8 0)) (h1 : i.size = 1) (hb : i.bytes = 1)
    (g sLen sCap k : Nat) (cur : Array Value) (hg : w.heap[g]? = some (.cells cur e (0, 0))) (hk : k ≤ 1000000) (hroom : sLen + k ≤ sCap) (hfit : sLen + k ≤ cur.size) :
    (Builtin.append_ #[t, u] ty #[.slice (some ⟨g, 0, none⟩) sLen sCap, .int .i64 (k : Int)]).run P w =
      .ok (.slice (some ⟨g, 0, none⟩) (sLen + k) sCap) (w.setRow g (cur.toList.take sLen ++ vB (List.replicate k 0) ++ cur.toList.drop (sLen + k)).toArray) := by
  have hst := run_storeCells_at P g sLen e (vB (List.replicate k 0)) 0 cur w hg (by simpa [vB] using hfit) (vB_cell _)
  simp only [Nat.add_zero, vB_len, List.length_replicate] at hst
  have hw : IntKind.i64.wrap (k : Int) = (k : Int) := by
    have e1 : (k : Int) % 2 ^ 64 = k := Int.emod_eq_of_lt (by omega) (by omega)
    simp only [IntKind.wrap, IntKind.bits, IntKind.signed, e1]
    rw [if_neg]
    simp
    omega
  have hneg : ¬ ((k : Int) < 0) := by omega
  have hbig : ¬ ((281474976710656 : Int) < (k : Int)) := by omega
  rcases Nat.eq_zero_or_pos k with h0 | h0
  · subst h0
    simp [vB] at hst
    have hw0 : IntKind.i64.wrap 0 = 0 := by decide
    simp [Builtin.append_, run_underlying ht, run_underlying hu, sizeOf, typeInfo, zeroValue, hi, hz, h1, hb, asInt, asIntOf, Addr.add_lit, hw0, hst, show sLen ≤ sCap by omega, vB]
  · have hkn : k ≠ 0 := by omega
    have hcl : ((Builtin.zeroCells #[Value.int .u8 0] k).toList) = vB (List.replicate k 0) := zero_cells k
    simp [Builtin.append_, run_underlying ht, run_underlying hu, sizeOf, typeInfo, zeroValue, hi, hz, h1, hb, hroom, asInt, asIntOf, Addr.add_lit, hw, hneg, hbig, hkn, Value.cells, hcl, hst]
theorem zeros_grow (t u ty e : TypeId) (i : TypeInfo) (ht : P.underlying t = some (.slice e)) (hu : P.underlying u = some (.int .i64)) (hi : P.info? e = some i) (hz : i.zero = some (.int .u8 0)) (h1 : i.size = 1) (hb : i.bytes = 1)
    (g sLen sCap k : Nat) (olds : List Value) (hlo : olds.length = sLen) (holds : ∀ j v, olds[j]? = some v → w.cell? ((⟨g, 0, none⟩ : Addr).add j) = some v) (hk : k ≤ 1000000) (hs : sLen ≤ 1000000) (hsc : sLen ≤ sCap) (hroom : sCap < sLen + k) :
    (Builtin.append_ #[t, u] ty #[.slice (some ⟨g, 0, none⟩) sLen sCap, .int .i64 (k : Int)]).run P w =
      .ok (.slice (some ⟨w.heap.size, 0, none⟩) (sLen + k) (grownCap w (sLen + k) sCap e))
        (w.drew.alloc (.cells (olds.toArray ++ (vB (List.replicate k 0)).toArray ++ Builtin.zeroCells #[Value.int .u8 0] (grownCap w (sLen + k) sCap e - (sLen + k))) e)) := by
  have hw : IntKind.i64.wrap (k : Int) = (k : Int) := by
    have e1 : (k : Int) % 2 ^ 64 = k := Int.emod_eq_of_lt (by omega) (by omega)
    simp only [IntKind.wrap, IntKind.bits, IntKind.signed, e1]
    rw [if_neg]
    simp
    omega
  have hneg : ¬ ((k : Int) < 0) := by omega
  have hbig : ¬ ((281474976710656 : Int) < (k : Int)) := by omega
  have hn : ¬ (sLen + k ≤ sCap) := by omega
  have h63' : ¬ (9223372036854775807 < ((sLen : Int) + (k : Int))) := by omega
  have hfit := growslice_fits (need := sLen + k) (old := sCap) (bytes := 1) (by omega) (by omega)
  have h48' : ¬ (281474976710656 < Builtin.nextslicecap (sLen + k) sCap) := by omega
  rcases Nat.eq_zero_or_pos k with h0 | h0
  · omega
  · have hkn : k ≠ 0 := by omega
    have hcl : ((Builtin.zeroCells #[Value.int .u8 0] k).toList) = vB (List.replicate k 0) := zero_cells k
    have hca : Builtin.zeroCells #[Value.int .u8 0] k = (vB (List.replicate k 0)).toArray := by rw [← hcl]
    have hfo := run_firstCells_some (P := P) w.drew 1 sLen ⟨g, 0, none⟩ sLen sCap olds (by omega) (by simpa using holds)
    simp [Builtin.append_, run_underlying ht, run_underlying hu, sizeOf, typeInfo, zeroValue, hi, hz, h1, hb, asInt, asIntOf, Addr.add_lit, hw, hneg, hbig, hkn, Value.cells, hca, hn, h63', h48', Question.forced, hfo, newRow, grownCap]
    congr 2
    apply Array.ext'
    simp [List.append_assoc]
/-- An append of zeros to a row that is not empty. -/
theorem catZ {ops : Array Oper} {rest : List Oper} {o : Oper} {a : Act} {Q : Exit → Act → World → Prop} (hgd : o.guard = none) (s x : Operand) (t u : TypeId)
    (ho : o.op = .call { callee := .builtin .append, args := #[s, x], argTypes := #[t, u] })
    (e : TypeId) (i : TypeInfo) (ht : P.underlying t = some (.slice e)) (hu : P.underlying u = some (.int .i64)) (hi : P.info? e = some i) (hz : i.zero = some (.int .u8 0)) (hsize : i.size = 1) (hby : i.bytes = 1)
    (W : World) (v : Value) (n k : Nat) (l : List UInt8) (hs : a.eval s = v) (hown : w.ownsRow W.heap.size e 1 v n (vB l)) (hb : Below W.heap.size W w) (hn : 0 < n) (hn9 : n ≤ 1000000) (hx : a.eval x = .int .i64 (k : Int)) (hk : k ≤ 1000000)
    (h : ∀ v' w', w'.ownsRow W.heap.size e 1 v' (n + k) (vB (l ++ List.replicate k 0)) → Below W.heap.size W w' → KeptBut e w w' → wpList P ops Q rest (a.put o.dst v') w') : wpList P ops Q (o :: rest) a w := by
  refine wpList_plain hgd fun K hK => ?_
  have hll : (vB l).length = n * 1 := hown.1
  have key : ∃ v' w', (Builtin.append_ #[t, u] o.type #[v, .int .i64 (k : Int)]).run P w = .ok v' w' ∧ w'.ownsRow W.heap.size e 1 v' (n + k) (vB (l ++ List.replicate k 0)) ∧ w.grownBy w' v.ownBlock := by
    rcases hown.2 with ⟨_, h0⟩ | ⟨g, cap, cur, rfl, hbg, hg, hnc, hcm, hcs, htake⟩
    · omega
    · have hlen : (vB l ++ vB (List.replicate k 0)).length = (n + k) * 1 := by rw [List.length_append, hll, vB_len, List.length_replicate]; omega
      by_cases hroom : n + k ≤ cap
      · have hr := zeros_room (P := P) w t u o.type e i ht hu hi hz hsize hby g n cap k cur hg hk hroom (by omega)
        refine ⟨_, _, hr, ?_, ⟨rfl, rfl, rfl, by simp, fun q _ hq => setRow_other w g q _ (fun e => hq (by simp [Value.ownBlock, e]))⟩⟩
        rw [vB_app]
        refine ⟨hlen, .inr ⟨g, cap, _, rfl, hbg, setRow_heap w g cur _ e _ hg, hroom, hcm, ?_, ?_⟩⟩
        · simp only [List.size_toArray, List.length_append, List.length_take, List.length_drop, Array.length_toList, vB_len, List.length_replicate]
          omega
        · rw [Nat.mul_one] at htake
          rw [htake, ← hlen]
          exact List.take_left
      · have holds : ∀ j u, (vB l)[j]? = some u → w.cell? ((⟨g, 0, none⟩ : Addr).add j) = some u := hown.cells (g := g) rfl
        have hr := zeros_grow (P := P) w t u o.type e i ht hu hi hz hsize hby g n cap k (vB l) (by omega) holds hk hn9 hnc (by omega)
        have hge := grownCap_ge w (n + k) cap e
        have hcm : grownCap w (n + k) cap e ≤ maxLen := grownCap_le_maxLen w (n + k) cap e (by unfold maxLen; omega)
        refine ⟨_, _, hr, ?_, ⟨rfl, rfl, rfl, by simp, fun q hq _ => heap_alloc_old w.drew _ hq⟩⟩
        rw [vB_app]
        refine ⟨hlen, .inr ⟨w.heap.size, _, _, rfl, hb.size, heap_alloc_new w.drew _, hge, hcm, ?_, ?_⟩⟩
        · simp only [Array.size_append, List.size_toArray, size_zeroCells, hll, vB_len, List.length_replicate]
          have : ([Value.int .u8 0] : List Value).length = 1 := rfl
          rw [this]
          omega
        · simp only [Array.toList_append, List.append_assoc]
          rw [← List.append_assoc, ← hlen]
          exact List.take_left
  obtain ⟨v', w', hr, h2, h3⟩ := key
  have hrun := hr
  unfold Oper.wp execOp
  simp only [ho, resolve, invoke, builtin, Sem.run_bind, Sem.run_pure, Result.andThen_ok, List.map_toArray, List.map_cons, List.map_nil, hs, hx, hr]
  exact hK _ _ (h v' w' h2 (hb.grown h3 hb.size (fun q hq => (own_block hown q hq).1)) (KeptBut.of_grown hown h3))
end
end Go.Proofs.YtkjjidmchepjcaaDoor.lb
