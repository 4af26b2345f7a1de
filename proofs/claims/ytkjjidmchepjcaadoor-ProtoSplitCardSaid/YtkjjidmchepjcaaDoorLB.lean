/- Words for slices of bytes and of texts, rows of the call's own, appends: for whatever program. -/
import Derived.Test.YtkjjidmchepjcaaDoorProg
import Derived.WalkKit
import Derived.ProofKit
import Derived.Lib.Hide
import Derived.WalkLawsBesides
import Derived.WalkSpells
import Derived.Deep.RegionWith
import Derived.OpenShut
import Derived.ChangeSlices
import Derived.SliceStrings
import Derived.Laws.AppendOwnNone
import Derived.Lib.AppendStr
import Derived.Deep.Matrix
namespace Go.Proofs.YtkjjidmchepjcaaDoor.lb
open Go Go.RowKit Go.ChangeShapes Go.WideShapes
set_option linter.unusedVariables false
set_option linter.unusedSimpArgs false
/-! Worlds. -/
theorem drewN_of {B : Nat} {w W : World} (h : Below B w W) (n : Nat) : Below B w (W.drewN n) := ⟨h.os, h.tape, h.output, h.size, h.block⟩
theorem below_drewN (w : World) (n : Nat) : Below w.heap.size w (w.drewN n) := drewN_of (Below.refl _ _) n
theorem below_alloc (w : World) (o : Obj) : Below w.heap.size w (w.alloc o) := (Below.refl _ _).alloc (Nat.le_refl _) o
theorem below_then {W w w' : World} (h : Below W.heap.size W w) (k : Below w.heap.size w w') : Below W.heap.size W w' := h.trans (k.mono h.size)
theorem grown_of_below {w w' : World} (hb : Below w.heap.size w w') (row : Option Nat) : w.grownBy w' row := ⟨hb.os, hb.tape, hb.output, hb.size, fun k hk _ => hb.block k hk⟩
theorem grown_trans {w w1 w2 : World} {row : Option Nat} (h : w.grownBy w1 row) (k : w1.grownBy w2 row) : w.grownBy w2 row :=
  ⟨k.os.trans h.os, k.tape.trans h.tape, k.output.trans h.output, Nat.le_trans h.size k.size, fun i hi hr => (k.block i (Nat.lt_of_lt_of_le hi h.size) hr).trans (h.block i hi hr)⟩
/-- Only blocks of this type may have turned. -/
def KeptBut (e : TypeId) (w w' : World) : Prop := w.heap.size ≤ w'.heap.size ∧ ∀ k, k < w.heap.size → (∀ cur m, w.heap[k]? ≠ some (.cells cur e m)) → w'.heap[k]? = w.heap[k]?
theorem KeptBut.refl (e : TypeId) (w : World) : KeptBut e w w := ⟨Nat.le_refl _, fun _ _ _ => rfl⟩
theorem KeptBut.trans {e : TypeId} {w w1 w2 : World} (h : KeptBut e w w1) (k : KeptBut e w1 w2) : KeptBut e w w2 :=
  ⟨Nat.le_trans h.1 k.1, fun i hi hn => (k.2 i (Nat.lt_of_lt_of_le hi h.1) (fun cur m he => hn cur m (by rw [← h.2 i hi hn]; exact he))).trans (h.2 i hi hn)⟩
theorem KeptBut.of_below {e : TypeId} {w w' : World} (h : Below w.heap.size w w') : KeptBut e w w' := ⟨h.size, fun k hk _ => h.block k hk⟩
theorem KeptBut.of_grown {e : TypeId} {B s n : Nat} {v : Value} {xs : List Value} {w w' : World} (ho : w.ownsRow B e s v n xs) (h : w.grownBy w' v.ownBlock) : KeptBut e w w' := by
  refine ⟨h.size, fun k hk hn => h.block k hk fun hb => ?_⟩
  rcases ho.2 with ⟨rfl, _⟩ | ⟨g, cap, cur, rfl, _, hg, _⟩
  · simp [Value.ownBlock] at hb
  · have : k = g := by simpa [Value.ownBlock] using hb
    subst this
    exact hn _ _ hg
theorem KeptBut.own {e e' : TypeId} {w w' : World} {B s n : Nat} {v : Value} {xs : List Value} (h : KeptBut e w w') (ho : w.ownsRow B e' s v n xs) (he : e' ≠ e) : w'.ownsRow B e' s v n xs := by
  refine ⟨ho.1, ?_⟩
  rcases ho.2 with hn | ⟨g, cap, cur, hv, hb, hg, rest⟩
  · exact .inl hn
  · refine .inr ⟨g, cap, cur, hv, hb, ?_, rest⟩
    rw [h.2 g (Array.getElem?_eq_some_iff.1 hg).1 (fun c m hc => by rw [hg] at hc; simp at hc; exact he hc.2.1), hg]
theorem add_flat (b o j : Nat) : (⟨b, o, none⟩ : Addr).add j = ⟨b, o + j, none⟩ := Go.WideShapes.add_plain b o j
/-! Bytes. -/
abbrev sV (l : List UInt8) : Value := .string ⟨l.toArray⟩
def vB (l : List UInt8) : List Value := l.map fun c => .int .u8 (c.toNat : Int)
theorem vB_len (l : List UInt8) : (vB l).length = l.length := by simp [vB]
theorem vB_app (a b : List UInt8) : vB (a ++ b) = vB a ++ vB b := by simp [vB]
theorem vB_get (l : List UInt8) (j : Nat) (h : j < l.length) : (vB l)[j]? = some (.int .u8 ((l.getD j 0).toNat : Int)) := by
  simp [vB, List.getD, h]
theorem vB_cell (l : List UInt8) : ∀ u ∈ vB l, u.oneCell' = true := by
  intro u hu
  simp only [vB, List.mem_map] at hu
  obtain ⟨c, _, rfl⟩ := hu
  rfl
def BytesAt (w : World) (ad : Option Addr) (l : List UInt8) : Prop := l = [] ∨ ∃ b o, ad = some ⟨b, o, none⟩ ∧ ∀ j, j < l.length → w.cell? ⟨b, o + j, none⟩ = some (.int .u8 ((l.getD j 0).toNat : Int))
/-- A slice of these bytes, at this address, of this capacity. -/
structure SB (w : World) (ad : Option Addr) (l : List UInt8) (c : Nat) : Prop where
  le : l.length ≤ c
  max : c ≤ 9223372036854775807
  nil : ad = none → c = 0
  at_ : BytesAt w ad l
theorem SB.none (w : World) : SB w none [] 0 := ⟨Nat.le_refl _, by decide, fun _ => rfl, .inl rfl⟩
theorem BytesAt.below {W w : World} {ad : Option Addr} {l : List UInt8} (h : BytesAt W ad l) (hb : Below W.heap.size W w) : BytesAt w ad l := by
  rcases h with h | ⟨b, o, h1, h2⟩
  · exact .inl h
  · exact .inr ⟨b, o, h1, fun j hj => (hb.cell (p := ⟨b, o + j, none⟩) (World.block_lt_of_cell? W _ (h2 j hj))).trans (h2 j hj)⟩
theorem SB.below {W w : World} {ad : Option Addr} {l : List UInt8} {c : Nat} (h : SB W ad l c) (hb : Below W.heap.size W w) : SB w ad l c := ⟨h.le, h.max, h.nil, h.at_.below hb⟩
theorem BytesAt.take {W : World} {ad : Option Addr} {l : List UInt8} (h : BytesAt W ad l) (m : Nat) : BytesAt W ad (l.take m) := by
  rcases h with h | ⟨b, o, h1, h2⟩
  · subst h; left; simp
  · right
    refine ⟨b, o, h1, fun j hj => ?_⟩
    simp at hj
    rw [h2 j (by omega)]
    simp [List.getD, List.getElem?_take, show j < m by omega]
theorem BytesAt.drop {W : World} {b o : Nat} {l : List UInt8} (h : ∀ j, j < l.length → W.cell? ⟨b, o + j, none⟩ = some (.int .u8 ((l.getD j 0).toNat : Int))) (i : Nat) : ∀ j, j < (l.drop i).length → W.cell? ⟨b, o + i + j, none⟩ = some (.int .u8 (((l.drop i).getD j 0).toNat : Int)) := by
  intro j hj
  simp at hj
  rw [show o + i + j = o + (i + j) by omega, h (i + j) (by omega)]
  simp [List.getD, List.getElem?_drop]
/-- The bytes between two places. -/
def seg (l : List UInt8) (i n : Nat) : List UInt8 := (l.drop i).take n
theorem seg_len (l : List UInt8) (i n : Nat) (h : i + n ≤ l.length) : (seg l i n).length = n := by simp [seg]; omega
theorem seg_get (l : List UInt8) (i n j : Nat) (hj : j < n) : (seg l i n).getD j 0 = l.getD (i + j) 0 := by
  simp [seg, List.getD, List.getElem?_take, hj, List.getElem?_drop]
theorem seg_cells {W : World} {b o : Nat} {l : List UInt8} (h : ∀ j, j < l.length → W.cell? ⟨b, o + j, none⟩ = some (.int .u8 ((l.getD j 0).toNat : Int))) (i n : Nat) (hn : i + n ≤ l.length) : ∀ j, j < n → W.cell? ⟨b, o + i + j, none⟩ = some (.int .u8 (((seg l i n).getD j 0).toNat : Int)) := by
  intro j hj
  rw [seg_get l i n j hj, show o + i + j = o + (i + j) by omega]
  exact h (i + j) (by omega)
theorem drop_get (l : List UInt8) (k : Nat) (h : k < l.length) : l.drop k = l.getD k 0 :: l.drop (k + 1) := by
  rw [List.drop_eq_getElem_cons h]
  simp [List.getD, h]
/-! Rows of the call's own. -/
theorem own_ne {w : World} {B B' e1 s1 n1 e2 s2 n2 : Nat} {v1 v2 : Value} {x1 x2 : List Value} (h1 : w.ownsRow B e1 s1 v1 n1 x1) (h2 : w.ownsRow B' e2 s2 v2 n2 x2) (he : e1 ≠ e2) : v1.ownBlock = none ∨ v1.ownBlock ≠ v2.ownBlock := by
  rcases h1.2 with ⟨rfl, _⟩ | ⟨g, cap, cur, rfl, hb, hgg, rest⟩
  · exact .inl rfl
  · rcases h2.2 with ⟨rfl, _⟩ | ⟨g', cap', cur', rfl, hb', hgg', rest'⟩
    · exact .inr (by simp [Value.ownBlock])
    · refine .inr fun h => ?_
      have : g = g' := by simpa [Value.ownBlock] using h
      subst this
      rw [hgg] at hgg'
      simp at hgg'
      exact he hgg'.2
theorem own_shape {w : World} {B e sz n : Nat} {v : Value} {xs : List Value} (h : w.ownsRow B e sz v n xs) : ∃ ad cp, v = .slice ad n cp := by
  rcases h.2 with ⟨rfl, h0⟩ | ⟨g, cap, cur, rfl, _⟩
  · exact ⟨none, 0, by rw [h0]⟩
  · exact ⟨_, _, rfl⟩
theorem own_max {w : World} {B e sz n : Nat} {v : Value} {xs : List Value} (h : w.ownsRow B e sz v n xs) : n ≤ 9223372036854775807 := by
  rcases h.2 with ⟨_, h0⟩ | ⟨g, cap, cur, _, _, _, h1, h2, _⟩
  · omega
  · unfold maxLen at h2; omega
theorem own_base {w : World} {B B' e sz n : Nat} {v : Value} {xs : List Value} (h : w.ownsRow B' e sz v n xs) (hB : B ≤ B') : w.ownsRow B e sz v n xs := by
  refine ⟨h.1, ?_⟩
  rcases h.2 with hn | ⟨g, cap, cur, rfl, hb, rest⟩
  · exact .inl hn
  · exact .inr ⟨g, cap, cur, rfl, Nat.le_trans hB hb, rest⟩
theorem own_later {w w' : World} {B e s n : Nat} {v : Value} {xs : List Value} (h : w.ownsRow B e s v n xs) (hb : Below w.heap.size w w') : w'.ownsRow B e s v n xs := h.kept (grown_of_below hb none) (by cases v.ownBlock <;> simp)
theorem own_block {w : World} {B e s n : Nat} {v : Value} {xs : List Value} (h : w.ownsRow B e s v n xs) : ∀ k, v.ownBlock = some k → B ≤ k ∧ k < w.heap.size := by
  intro k hk
  rcases h.2 with ⟨rfl, _⟩ | ⟨g, cap, cur, rfl, hb, hg, _⟩
  · simp [Value.ownBlock] at hk
  · have : g = k := by simpa [Value.ownBlock] using hk
    subst this
    exact ⟨hb, (Array.getElem?_eq_some_iff.1 hg).1⟩
theorem own_nil (w : World) (B e s : Nat) : w.ownsRow B e s (.slice none 0 0) 0 [] := World.ownsRow_nil _ _ _ _
theorem row_addr {w : World} {B e s n : Nat} {v : Value} {xs : List Value} (h : w.ownsRow B e s v n xs) (hn : 0 < n) : ∃ g c, v = .slice (some ⟨g, 0, none⟩) n c := by
  rcases h.2 with ⟨rfl, h0⟩ | ⟨g, cap, cur, rfl, _⟩
  · omega
  · exact ⟨g, cap, rfl⟩
theorem row_at {w : World} {B e g n c k : Nat} {xs : List Value} (h : w.ownsRow B e 1 (.slice (some ⟨g, 0, none⟩) n c) n xs) (hk : k < n) : w.cell? ⟨g, k, none⟩ = xs[k]? := h.cellAt k (by omega)
theorem own_cast {w : World} {B e s n n' : Nat} {v : Value} {xs xs' : List Value} (h : w.ownsRow B e s v n xs) (hx : xs = xs') (hn : n = n') : w.ownsRow B e s v n' xs' := by
  subst hx hn; exact h
/-- A row that was just made. -/
theorem own_made (w : World) (e : TypeId) (n : Nat) (xs : List Value) (hn : xs.length = n) (hm : n ≤ 9223372036854775807) : (w.alloc (.cells xs.toArray e)).ownsRow w.heap.size e 1 (.slice (some ⟨w.heap.size, 0, none⟩) n n) n xs := by
  refine ⟨by omega, .inr ⟨w.heap.size, n, xs.toArray, rfl, Nat.le_refl _, ?_, Nat.le_refl _, by unfold maxLen; omega, by simp [hn], by subst hn; simp⟩⟩
  show (w.heap.push _)[w.heap.size]? = _
  simp
/-- A row of bytes of the call's own, as a slice that is read. -/
theorem own_bytes {w : World} {B e : Nat} {v : Value} {l : List UInt8} (h : w.ownsRow B e 1 v l.length (vB l)) : ∃ ad c, v = .slice ad l.length c ∧ SB w ad l c := by
  rcases h.2 with ⟨rfl, h0⟩ | ⟨g, cap, cur, rfl, hb, hg, hn, hm, rest⟩
  · have : l = [] := List.eq_nil_of_length_eq_zero h0
    subst this
    exact ⟨none, 0, rfl, SB.none w⟩
  · refine ⟨_, cap, rfl, hn, by unfold maxLen at hm; omega, (fun h => by cases h), ?_⟩
    right
    refine ⟨g, 0, rfl, fun j hj => ?_⟩
    rw [h.cellAt (0 + j) (by omega), Nat.zero_add, vB_get l j hj]
/-- The same, with what a store wants: where it lies, and that it may be written. -/
theorem own_at {w : World} {B e : Nat} {v : Value} {l : List UInt8} (h : w.ownsRow B e 1 v l.length (vB l)) (hl : l ≠ []) : ∃ g c, v = .slice (some ⟨g, 0, none⟩) l.length c ∧ B ≤ g ∧ l.length ≤ c ∧ c ≤ 9223372036854775807 ∧ (∀ j, j < l.length → w.cell? ⟨g, j, none⟩ = some (.int .u8 ((l.getD j 0).toNat : Int))) ∧ (∀ j, w.frozen? ⟨g, j, none⟩ = false) := by
  rcases h.2 with ⟨rfl, h0⟩ | ⟨g, cap, cur, rfl, hb, hg, hn, hm, rest⟩
  · exact absurd (List.eq_nil_of_length_eq_zero h0) hl
  · refine ⟨g, cap, rfl, hb, hn, by unfold maxLen at hm; omega, fun j hj => ?_, fun j => ?_⟩
    · rw [h.cellAt j (by omega), vB_get l j hj]
    · unfold World.frozen?
      simp only [hg]
      simp
section
variable {P : Program}
/-- An append of one element: it lies in a block of its own. -/
theorem app1 {ops : Array Oper} {rest : List Oper} {o : Oper} {a : Act} {Q : Exit → Act → World → Prop} (hgd : o.guard = none) (s x : Operand) (t : TypeId)
    (ho : o.op = .call { callee := .builtin .append, args := #[s, x], argTypes := #[t, t] })
    (e : TypeId) (i : TypeInfo) (z : Value) (size bytes : Nat) (ht : P.underlying t = some (.slice e)) (hi : P.info? e = some i) (hz : i.zero = some z)
    (hsize : i.size = size) (hby : i.bytes = bytes) (hzs : z.cells.size = size) (hsz : 0 < size)
    (W w : World) (v : Value) (n : Nat) (xs : List Value) (news : List Value) (hs : a.eval s = v) (hown : w.ownsRow W.heap.size e size v n xs) (hb : Below W.heap.size W w)
    (hx : a.eval x = .slice (some ⟨w.heap.size, 0, none⟩) 1 1) (hl : news.length = size) (h1 : ∀ u ∈ news, u.oneCell' = true)
    (h63 : n + 1 ≤ 9223372036854775807) (hbytes : (n + 1) * bytes ≤ 140737488355328)
    (h : ∀ v' w', w'.ownsRow W.heap.size e size v' (n + 1) (xs ++ news) → Below W.heap.size W w' → KeptBut e w w' → wpList P ops Q rest (a.put o.dst v') w') : wpList P ops Q (o :: rest) a (w.alloc (.cells news.toArray e)) := by
  refine wpList_append_own _ hgd s x t ho W.heap.size e i z size bytes ht hi hz hsize hby hzs hsz v n xs hs (hown.alloc _) ⟨w.heap.size, 0, none⟩ 1 1 news hx (by omega) (fun j u hj => ?_) h1 (by unfold maxLen; omega) hbytes (Nat.le_trans hb.size (below_alloc w _).size) ?_
  · rw [add_flat, Nat.zero_add]
    have := World.cell?_alloc_mark w news.toArray e (0, 0) j
    rw [this]
    simpa using hj
  · intro v' w' h2 h3 _
    have hg : w.grownBy w' v.ownBlock := grown_trans (grown_of_below (below_alloc w _) _) h3
    exact h v' w' h2 ((hb.alloc hb.size _).grown h3 (Nat.le_trans hb.size (below_alloc w _).size) (fun k hk => (own_block hown k hk).1)) (KeptBut.of_grown hown hg)
/-- An append of one element to a row whose blocks lie from `B` on: what it leaves is told by that row's block alone. -/
theorem app1g {ops : Array Oper} {rest : List Oper} {o : Oper} {a : Act} {Q : Exit → Act → World → Prop} (hgd : o.guard = none) (s x : Operand) (t : TypeId)
    (ho : o.op = .call { callee := .builtin .append, args := #[s, x], argTypes := #[t, t] })
    (e : TypeId) (i : TypeInfo) (z : Value) (size bytes : Nat) (ht : P.underlying t = some (.slice e)) (hi : P.info? e = some i) (hz : i.zero = some z)
    (hsize : i.size = size) (hby : i.bytes = bytes) (hzs : z.cells.size = size) (hsz : 0 < size)
    (B : Nat) (w : World) (v : Value) (n : Nat) (xs : List Value) (news : List Value) (hs : a.eval s = v) (hown : w.ownsRow B e size v n xs) (hB : B ≤ w.heap.size)
    (hx : a.eval x = .slice (some ⟨w.heap.size, 0, none⟩) 1 1) (hl : news.length = size) (h1 : ∀ u ∈ news, u.oneCell' = true)
    (h63 : n + 1 ≤ 9223372036854775807) (hbytes : (n + 1) * bytes ≤ 140737488355328)
    (h : ∀ v' w', w'.ownsRow B e size v' (n + 1) (xs ++ news) → w.grownBy w' v.ownBlock → wpList P ops Q rest (a.put o.dst v') w') : wpList P ops Q (o :: rest) a (w.alloc (.cells news.toArray e)) := by
  refine wpList_append_own _ hgd s x t ho B e i z size bytes ht hi hz hsize hby hzs hsz v n xs hs (hown.alloc _) ⟨w.heap.size, 0, none⟩ 1 1 news hx (by omega) (fun j u hj => ?_) h1 (by unfold maxLen; omega) hbytes (Nat.le_trans hB (below_alloc w _).size) ?_
  · rw [add_flat, Nat.zero_add]
    have := World.cell?_alloc_mark w news.toArray e (0, 0) j
    rw [this]
    simpa using hj
  · intro v' w' h2 h3 _
    exact h v' w' h2 (grown_trans (grown_of_below (below_alloc w _) _) h3)
theorem grown_below {W0 w w' : World} {B e s n : Nat} {v : Value} {xs : List Value} (hb : Below W0.heap.size W0 w) (hown : w.ownsRow B e s v n xs) (hB : W0.heap.size ≤ B) (hg : w.grownBy w' v.ownBlock) : Below W0.heap.size W0 w' :=
  hb.grown hg hb.size (fun k hk => Nat.le_trans hB (own_block hown k hk).1)
/-- The same, where the new block's number is told otherwise. -/
theorem app1n {ops : Array Oper} {rest : List Oper} {o : Oper} {a : Act} {Q : Exit → Act → World → Prop} (p : Nat) (hgd : o.guard = none) (s x : Operand) (t : TypeId)
    (ho : o.op = .call { callee := .builtin .append, args := #[s, x], argTypes := #[t, t] })
    (e : TypeId) (i : TypeInfo) (z : Value) (size bytes : Nat) (ht : P.underlying t = some (.slice e)) (hi : P.info? e = some i) (hz : i.zero = some z)
    (hsize : i.size = size) (hby : i.bytes = bytes) (hzs : z.cells.size = size) (hsz : 0 < size)
    (W w : World) (hp : p = w.heap.size) (v : Value) (n : Nat) (xs : List Value) (news : List Value) (hs : a.eval s = v) (hown : w.ownsRow W.heap.size e size v n xs) (hb : Below W.heap.size W w)
    (hx : a.eval x = .slice (some ⟨p, 0, none⟩) 1 1) (hl : news.length = size) (h1 : ∀ u ∈ news, u.oneCell' = true)
    (h63 : n + 1 ≤ 9223372036854775807) (hbytes : (n + 1) * bytes ≤ 140737488355328)
    (h : ∀ v' w', w'.ownsRow W.heap.size e size v' (n + 1) (xs ++ news) → Below W.heap.size W w' → KeptBut e w w' → wpList P ops Q rest (a.put o.dst v') w') : wpList P ops Q (o :: rest) a (w.alloc (.cells news.toArray e)) := by
  subst hp
  exact app1 hgd s x t ho e i z size bytes ht hi hz hsize hby hzs hsz W w v n xs news hs hown hb hx hl h1 h63 hbytes h
/-- An append of one element, as a step of a region that draws its order. -/
theorem sapp {ops : Array Oper} {o : Oper} {a : Act} {K : Act → World → Prop} {Q : Exit → Act → World → Prop} {E : Prop} (p : Nat) (hgd : o.guard = none) (s x : Operand) (t : TypeId)
    (ho : o.op = .call { callee := .builtin .append, args := #[s, x], argTypes := #[t, t] })
    (e : TypeId) (i : TypeInfo) (z : Value) (size bytes : Nat) (ht : P.underlying t = some (.slice e)) (hi : P.info? e = some i) (hz : i.zero = some z)
    (hsize : i.size = size) (hby : i.bytes = bytes) (hzs : z.cells.size = size) (hsz : 0 < size)
    (W w : World) (v : Value) (n : Nat) (xs : List Value) (news : List Value) (hs : a.eval s = v) (hown : w.ownsRow W.heap.size e size v n xs) (hb : Below W.heap.size W w)
    (hx : a.eval x = .slice (some ⟨p, 0, none⟩) 1 1) (hl : news.length = size) (hc : ∀ j u, news[j]? = some u → w.cell? ⟨p, j, none⟩ = some u) (h1 : ∀ u ∈ news, u.oneCell' = true)
    (h63 : n + 1 ≤ 9223372036854775807) (hbytes : (n + 1) * bytes ≤ 140737488355328)
    (h : ∀ v' w', w'.ownsRow W.heap.size e size v' (n + 1) (xs ++ news) → Below W.heap.size W w' → KeptBut e w w' → K (a.put o.dst v') w') :
    if Region.wanted o (yielded ops a.tmps) = true then Oper.wp P o a w K Q else E := by
  have hw : Region.wanted o (yielded ops a.tmps) = true := by simp [Region.wanted, hgd]
  rw [if_pos hw]
  refine wp_append_own w s x t ho W.heap.size e i z size bytes ht hi hz hsize hby hzs hsz v n xs hs hown ⟨p, 0, none⟩ 1 1 news hx (by omega) (fun j u hj => ?_) h1 (by unfold maxLen; omega) hbytes hb.size ?_
  · rw [add_flat, Nat.zero_add]
    exact hc j u hj
  · intro v' w' h2 h3 _
    exact h v' w' h2 (hb.grown h3 hb.size (fun k hk => (own_block hown k hk).1)) (KeptBut.of_grown hown h3)
theorem cell_new (w : World) (C : Array Value) (t : TypeId) (fr : Nat × Nat) (p j : Nat) (hp : p = w.heap.size) : (w.alloc (.cells C t fr)).cell? ⟨p, j, none⟩ = C[j]? := by
  subst hp
  exact World.cell?_alloc_mark w C t fr j
theorem size_alloc2 (w : World) (o o' : Obj) : w.heap.size + 2 = ((w.alloc o).alloc o').heap.size := by
  show _ = ((w.heap.push _).push _).size
  simp
theorem strCells_vB (s : ByteArray) : Lib.strCells s = vB s.data.toList := rfl
/-- An append of a text's bytes. -/
theorem catS {ops : Array Oper} {rest : List Oper} {o : Oper} {a : Act} {Q : Exit → Act → World → Prop} (hgd : o.guard = none) (sl x : Operand) (t u : TypeId)
    (ho : o.op = .call { callee := .builtin .append, args := #[sl, x], argTypes := #[t, u] })
    (e : TypeId) (i : TypeInfo) (ht : P.underlying t = some (.slice e)) (hu : P.underlying u = some .string) (hi : P.info? e = some i) (hz : i.zero = some (.int .u8 0))
    (hsize : i.size = 1) (hby : i.bytes = 1)
    (W w : World) (v : Value) (n : Nat) (l : List UInt8) (s : ByteArray) (hs : a.eval sl = v) (hown : w.ownsRow W.heap.size e 1 v n (vB l)) (hb : Below W.heap.size W w) (hx : a.eval x = .string s)
    (hbytes : n + s.size ≤ 140737488355328)
    (h : ∀ v' w', w'.ownsRow W.heap.size e 1 v' (n + s.size) (vB (l ++ s.data.toList)) → Below W.heap.size W w' → KeptBut e w w' → wpList P ops Q rest (a.put o.dst v') w') : wpList P ops Q (o :: rest) a w := by
  refine Lib.wpList_append_own_string _ hgd sl x t u ho W.heap.size e i ht hu hi hz hsize hby v n (vB l) hs hown s hx (by unfold maxLen; omega) hbytes hb.size ?_
  intro v' w' h2 h3 _
  rw [strCells_vB, ← vB_app] at h2
  exact h v' w' h2 (hb.grown h3 hb.size (fun k hk => (own_block hown k hk).1)) (KeptBut.of_grown hown h3)
/-! Blocks that stay. -/
theorem blk_alloc {w : World} {o : Obj} {i : Nat} {x : Obj} (h : w.heap[i]? = some x) : (w.alloc o).heap[i]? = some x := by
  have hi := (Array.getElem?_eq_some_iff.1 h).1
  show (w.heap.push o)[i]? = _
  rw [Array.getElem?_push, if_neg (by omega)]
  exact h
theorem blk_kept {e t : TypeId} {w w' : World} {i : Nat} {c : Array Value} {m : Nat × Nat} (h : w.heap[i]? = some (.cells c t m)) (ht : t ≠ e) (hk : KeptBut e w w') : w'.heap[i]? = some (.cells c t m) := by
  rw [hk.2 i (Array.getElem?_eq_some_iff.1 h).1 (fun cur q hq => by rw [h] at hq; cases hq; exact ht rfl)]
  exact h
theorem blk_set0 {t : TypeId} {w : World} {i : Nat} {v u : Value} {m : Nat × Nat} (h : w.heap[i]? = some (.cells #[v] t m)) : (w.setCell ⟨i, 0, none⟩ u).heap[i]? = some (.cells #[u] t m) := by
  simp [World.setCell, Array.getElem?_modify, h]
theorem own_set {e t : TypeId} {w : World} {B s n i : Nat} {v x : Value} {xs : List Value} {c : Array Value} {m : Nat × Nat} (ho : w.ownsRow B e s v n xs) (h : w.heap[i]? = some (.cells c t m)) (ht : t ≠ e) (j : Nat) : (w.setCell ⟨i, j, none⟩ x).ownsRow B e s v n xs := by
  refine ownsRow_setCell_other ho ?_ x
  intro hk
  rcases ho.2 with ⟨rfl, _⟩ | ⟨g, cap, cur, rfl, _, hc, _⟩
  · simp [Value.ownBlock] at hk
  · simp [Value.ownBlock] at hk
    subst hk
    rw [h] at hc
    cases hc
    exact ht rfl
/-- A call of a Go function by its contract, as a step of a region that draws its order. -/
theorem scall {ops : Array Oper} {o : Oper} {a : Act} {K : Act → World → Prop} {Q : Exit → Act → World → Prop} {E : Prop} (hgd : o.guard = none) (f : FuncId) (args : Array Value) (w : World) (hrun : (execOp a.eval o).run P w = .ok (.enter f args) w) {R : Ending → World → Prop} (hc : Calls P f args w R)
    (h : ∀ e w', R e w' → ∃ v, e = .returned v ∧ K (a.put o.dst v) w') : if Region.wanted o (yielded ops a.tmps) = true then Oper.wp P o a w K Q else E := by
  have hw : Region.wanted o (yielded ops a.tmps) = true := by simp [Region.wanted, hgd]
  rw [if_pos hw]
  unfold Oper.wp
  rw [hrun, Oper.upon_enter]
  refine hc.mono fun e w'' hh => ?_
  obtain ⟨v, rfl, hk⟩ := h e w'' hh
  exact hk
theorem blk_set {t : TypeId} {w : World} {i j : Nat} {c : Array Value} {u : Value} {m : Nat × Nat} (h : w.heap[i]? = some (.cells c t m)) : (w.setCell ⟨i, j, none⟩ u).heap[i]? = some (.cells (c.setIfInBounds j u) t m) := by
  simp [World.setCell, Array.getElem?_modify, h]
theorem blk_other {w : World} {i q j : Nat} {x : Obj} {u : Value} (h : w.heap[i]? = some x) (hne : i ≠ q) : (w.setCell ⟨q, j, none⟩ u).heap[i]? = some x := by
  show (w.heap.modify q _)[i]? = _
  rw [Array.getElem?_modify, if_neg (fun e => hne e.symm)]
  exact h
theorem size_alloc (w : World) (o : Obj) : w.heap.size + 1 = (w.alloc o).heap.size := by
  show _ = (w.heap.push o).size
  simp
/-- An append of a slice of bytes, whatever it is. -/
theorem catB {ops : Array Oper} {rest : List Oper} {o : Oper} {a : Act} {Q : Exit → Act → World → Prop} (hgd : o.guard = none) (s x : Operand) (t : TypeId)
    (ho : o.op = .call { callee := .builtin .append, args := #[s, x], argTypes := #[t, t] })
    (e : TypeId) (i : TypeInfo) (ht : P.underlying t = some (.slice e)) (hi : P.info? e = some i) (hz : i.zero = some (.int .u8 0))
    (hsize : i.size = 1) (hby : i.bytes = 1)
    (W w : World) (v : Value) (n : Nat) (l src : List UInt8) (ad : Option Addr) (m c : Nat) (hs : a.eval s = v) (hn : l.length = n) (hown : w.ownsRow W.heap.size e 1 v n (vB l)) (hb : Below W.heap.size W w)
    (hx : a.eval x = .slice ad m c) (hm : src.length = m) (hsrc : SB w ad src c)
    (hbytes : n + m ≤ 140737488355328)
    (h : ∀ v' w', w'.ownsRow W.heap.size e 1 v' (n + m) (vB (l ++ src)) → Below W.heap.size W w' → KeptBut e w w' → wpList P ops Q rest (a.put o.dst v') w') : wpList P ops Q (o :: rest) a w := by
  subst hm
  subst hn
  cases ad with
  | none =>
    have hc := hsrc.nil rfl
    have hle := hsrc.le
    obtain rfl : src = [] := List.eq_nil_of_length_eq_zero (by omega)
    subst hc
    refine wpList_append_own_none hgd s x t ho W.heap.size e i 1 ht hi v l.length (vB l) hs hown hx ?_
    exact h v w (by simpa using hown) hb (KeptBut.refl _ _)
  | some adr =>
    refine wpList_append_own _ hgd s x t ho W.heap.size e i (.int .u8 0) 1 1 ht hi hz hsize hby rfl (by decide) v l.length (vB l) hs hown adr src.length c (vB src) hx (by rw [vB_len]; omega) ?_ (vB_cell src) (by unfold maxLen; omega) (by omega) hb.size ?_
    · intro j u hj
      rcases hsrc.at_ with h0 | ⟨b', o', he, hc⟩
      · subst h0; simp [vB] at hj
      · cases he
        have hjl : j < src.length := by
          have := (List.getElem?_eq_some_iff.1 hj).1
          rwa [vB_len] at this
        rw [add_flat, hc j hjl, ← hj, vB_get src j hjl]
    · intro v' w' h2 h3 _
      rw [← vB_app] at h2
      exact h v' w' h2 (hb.grown h3 hb.size (fun k hk => (own_block hown k hk).1)) (KeptBut.of_grown hown h3)
end
/-! Arguments. -/
section
variable {P : Program} {H : Type} {enc : TypeId × Value → H} {W : World} {sp : Nat → Bool} {hd : Bool} {base : Nat}
set_option maxRecDepth 100000 in
/-- A slice of bytes that came in. -/
theorem bytes_of_trod {t e : TypeId} {v : Value} {d : DataW H} {p : List MemPlace} (ht : P.underlying t = some (.slice e)) (he : P.underlying e = some (.int .u8)) (hce : P.cellsOf e = 1)
    (hk : Value.okWide P W .any base t v) (h : DataW.Trod enc P W 0 sp hd t v d p) : ∃ ad l c, v = .slice ad l.length c ∧ SB W ad l c := by
  obtain ⟨fuel, h⟩ := h
  obtain ⟨a0, len0, cap0, rfl⟩ := okWide_slice ht hk
  rcases open_ints ht he hce h with ⟨h1, h2⟩ | ⟨a, len, cap, zs, h1, _, h2, h3, h4, _, h5, h6⟩
  · simp [Value.cells] at h1
    obtain ⟨rfl, rfl, rfl⟩ := h1
    exact ⟨none, [], 0, rfl, SB.none W⟩
  · simp [Value.cells] at h1
    obtain ⟨rfl, rfl, rfl⟩ := h1
    have hlen : len0 ≤ zs.length := by rw [h4]; split <;> omega
    have hl : ((zs.take len0).map (fun z => z.toNat.toUInt8)).length = len0 := by simp; omega
    refine ⟨some a, (zs.take len0).map (fun z => z.toNat.toUInt8), cap0, by rw [hl], by rw [hl]; exact h2, by unfold maxLen at h3; omega, (fun h => by cases h), ?_⟩
    rcases Nat.eq_zero_or_pos len0 with h0 | h0
    · subst h0; exact .inl rfl
    · right
      have hc0 := h5 0 (by omega)
      obtain ⟨b, o, s⟩ := a
      have hs : s = none := by
        unfold World.cell? at hc0
        rw [show (⟨b, o, s⟩ : Addr).add 0 = ⟨b, o, s⟩ from rfl] at hc0
        split at hc0
        · cases s <;> simp_all
        · cases hc0
      subst hs
      refine ⟨b, o, rfl, fun j hj => ?_⟩
      have hj' : j < len0 := by rw [hl] at hj; exact hj
      have hc := h5 j (by omega)
      rw [add_flat] at hc
      rw [hc]
      have hjz : j < zs.length := by omega
      have hg : ((zs.take len0).map (fun z => z.toNat.toUInt8)).getD j 0 = (zs.getD j 0).toNat.toUInt8 := by
        simp [List.getD, List.getElem?_take, hj', hjz]
      have hmem : zs.getD j 0 ∈ zs := by
        simp [List.getD, hjz]
      have hwf := h6 _ hmem
      rw [hg]
      generalize zs.getD j 0 = z at hwf
      simp [Lit.wf, IntKind.min, IntKind.max, IntKind.signed, IntKind.bits] at hwf
      congr 2
      simp
      omega
theorem sb_of_ints {a : Option Addr} {L C : Nat} {Z : List Int} (h1 : L ≤ C) (h2 : C ≤ maxLen) (h3 : Z.length = C) (h4 : ∀ n ∈ Z, (Lit.int .u8 n).wf = true) (h5 : a = none → C = 0) (h6 : ∀ a', a = some a' → ∀ c, c < C → W.cell? (a'.add c) = some (.int .u8 (Z.getD c 0))) :
    ∃ l : List UInt8, l.length = L ∧ SB W a l C := by
  have hl : ((Z.take L).map (fun z => z.toNat.toUInt8)).length = L := by simp; omega
  refine ⟨(Z.take L).map (fun z => z.toNat.toUInt8), hl, by rw [hl]; exact h1, by unfold maxLen at h2; omega, h5, ?_⟩
  rcases Nat.eq_zero_or_pos L with h0 | h0
  · subst h0; exact .inl rfl
  · right
    cases a with
    | none => have := h5 rfl; omega
    | some a' =>
      have h6' := h6 a' rfl
      have hc0 := h6' 0 (by omega)
      obtain ⟨b, o, s⟩ := a'
      have hs : s = none := by
        unfold World.cell? at hc0
        rw [show (⟨b, o, s⟩ : Addr).add 0 = ⟨b, o, s⟩ from rfl] at hc0
        split at hc0
        · cases s <;> simp_all
        · cases hc0
      subst hs
      refine ⟨b, o, rfl, fun j hj => ?_⟩
      have hj' : j < L := by rw [hl] at hj; exact hj
      have hc := h6' j (by omega)
      rw [add_flat] at hc
      rw [hc]
      have hjz : j < Z.length := by omega
      have hg : ((Z.take L).map (fun z => z.toNat.toUInt8)).getD j 0 = (Z.getD j 0).toNat.toUInt8 := by
        simp [List.getD, List.getElem?_take, hj', hjz]
      have hmem : Z.getD j 0 ∈ Z := by simp [List.getD, hjz]
      have hwf := h4 _ hmem
      rw [hg]
      generalize Z.getD j 0 = z at hwf
      simp [Lit.wf, IntKind.min, IntKind.max, IntKind.signed, IntKind.bits] at hwf
      congr 2
      simp
      omega
set_option maxRecDepth 100000 in
/-- A slice of slices of bytes that came in. -/
theorem rows_of_trod {t e q : TypeId} {v : Value} {d : DataW H} {p : List MemPlace} (ht : P.underlying t = some (.slice e)) (he : P.underlying e = some (.slice q)) (hq : P.underlying q = some (.int .u8)) (ce : P.cellsOf e = 1) (cq : P.cellsOf q = 1)
    (hk : Value.okWide P W .any base t v) (h : DataW.Trod enc P W 0 (fun _ => true) hd t v d p) : ∃ ad n c, v = .slice ad n c ∧ n ≤ c ∧ c ≤ 9223372036854775807 ∧ (n = 0 ∨ ∃ b o, ad = some ⟨b, o, none⟩ ∧ ∀ r, r < n → ∃ a l k, W.cell? ⟨b, o + r, none⟩ = some (.slice a l.length k) ∧ SB W a l k) := by
  obtain ⟨fuel, h⟩ := h
  obtain ⟨a0, len0, cap0, rfl⟩ := okWide_slice ht hk
  rcases Go.Deep.open_int_rows ht he hq ce cq h with ⟨h1, _⟩ | ⟨a, len, cap, A, L, C, Z, h1, _, h2, h3, _, h5⟩
  · simp [Value.cells] at h1
    obtain ⟨rfl, rfl, rfl⟩ := h1
    exact ⟨none, 0, 0, rfl, Nat.le_refl _, by decide, .inl rfl⟩
  · simp [Value.cells] at h1
    obtain ⟨rfl, rfl, rfl⟩ := h1
    refine ⟨some a, len0, cap0, rfl, h2, by unfold maxLen at h3; omega, ?_⟩
    rcases Nat.eq_zero_or_pos len0 with h0 | h0
    · exact .inl h0
    · right
      have hc0 := (h5 0 (by omega)).1
      obtain ⟨b, o, s⟩ := a
      have hs : s = none := by
        unfold World.cell? at hc0
        rw [show (⟨b, o, s⟩ : Addr).add 0 = ⟨b, o, s⟩ from rfl] at hc0
        split at hc0
        · cases s <;> simp_all
        · cases hc0
      subst hs
      refine ⟨b, o, rfl, fun r hr => ?_⟩
      obtain ⟨g1, g2, g3, g4, g5, g6, g7⟩ := h5 r (by omega)
      obtain ⟨l, hl, hs⟩ := sb_of_ints (W := W) g2 g3 g4 g5 g6 (fun a' ha => (g7 a' ha).2)
      rw [add_flat] at g1
      exact ⟨A r, l, C r, by rw [g1, hl], hs⟩
end
end Go.Proofs.YtkjjidmchepjcaaDoor.lb
