/- Small facts for the laws of records. -/
import Derived.Test.YtgfkgoiaoglhnaaProg
import Derived.WalkKit
import Derived.ProofKit
import Derived.Lib.Hide
import Derived.WalkLawsBesides
import Derived.WalkSpells
import Derived.Deep.RegionWith
import Derived.Laws.BytesString
import Derived.OwnWalk
import Derived.Test.YtgfkgoiaoglhnaaJV
import Derived.Test.YtgfkgoiaoglhnaaJM
import Derived.Test.YtgfkgoiaoglhnaaJO
import Derived.Test.YtgfkgoiaoglhnaaBK
namespace Go.Proofs.Ytgfkgoiaoglhnaa.jr
open Go Go.RowKit Go.ChangeShapes Go.WideShapes
set_option linter.unusedVariables false
set_option linter.unusedSimpArgs false
theorem conv_SB {w : World} {ad : Option Addr} {n c : Nat} {l : List UInt8} (h : lb.SB w ad l c) (hn : l.length = n) :
    (convert 51 9 (.slice ad n c)).run Try.prog w = .ok (lb.sV l) w := by
  subst hn
  cases ad with
  | none =>
    have := h.nil rfl
    have := h.le
    obtain rfl : l = [] := List.eq_nil_of_length_eq_zero (by omega)
    subst_vars
    exact run_convert_bytes_string (P := Try.prog) w 51 9 5 none 0 0 Try.underlying51 Try.underlying5 Try.underlying9
  | some a =>
    refine run_convert_bytes_back (P := Try.prog) w 51 9 5 a c l Try.underlying51 Try.underlying5 Try.underlying9 (fun j hj => ?_)
    rcases h.at_ with h0 | ⟨b, o, he, hc⟩
    · subst h0; simp at hj
    · cases he
      rw [lb.add_flat, hc j hj]
      simp [List.getD, hj]
theorem flip_own {w : World} {B g n cp j x : Nat} {l : List UInt8} (h : w.ownsRow B 5 1 (.slice (some ⟨g, 0, none⟩) n cp) n (lb.vB l)) (hx : x < 256) :
    (w.setCell ⟨g, j, none⟩ (.int .u8 (bits .xor .u8 (((l[j]?.getD 0).toNat : Nat) : Int) (x : Int)))).ownsRow B 5 1 (.slice (some ⟨g, 0, none⟩) n cp) n (lb.vB (l.set j ((l[j]?.getD 0) ^^^ UInt8.ofNat x))) := by
  have := (h.stored j (.int .u8 (bits .xor .u8 (((l[j]?.getD 0).toNat : Nat) : Int) (x : Int)))).1
  refine lb.own_cast this ?_ rfl
  have hc := (l[j]?.getD 0).toNat_lt
  rw [u8_xor_nat _ _ hc hx]
  simp only [lb.vB, List.map_set, UInt8.toNat_xor]
  congr 3
  have : (UInt8.ofNat x).toNat = x := by simp; omega
  rw [this]
theorem OwnE.below {W w w' : World} {e : En} {v : Value} (h : OwnE W w e v) (hb : Below w.heap.size w w') : OwnE W w' e v := by
  obtain ⟨v1, v2, v3, h0, h1, h2, h3⟩ := h
  exact ⟨v1, v2, v3, h0, lb.own_later h1 hb, lb.own_later h2 hb, lb.own_later h3 hb⟩
theorem OwnE.base {W W' w : World} {e : En} {v : Value} (h : OwnE W w e v) (hs : W'.heap.size ≤ W.heap.size) : OwnE W' w e v := by
  obtain ⟨v1, v2, v3, h0, h1, h2, h3⟩ := h
  exact ⟨v1, v2, v3, h0, lb.own_base h1 hs, lb.own_base h2 hs, lb.own_base h3 hs⟩
set_option maxRecDepth 100000 in
theorem cells_u8 : Try.prog.cellsOf 5 = 1 := by kernel_rfl
/-- The cells of a struct that lies in a block. -/
theorem en_cells {w : World} {q : Nat} {e : En} {a1 a2 a3 : Option Addr} {n1 c1 n2 c2 n3 c3 : Nat} {t : TypeId} {m : Nat × Nat} (h : w.heap[q]? = some (.cells (enCells e a1 a2 a3 n1 c1 n2 c2 n3 c3) t m)) :
    w.cell? ⟨q, 0, none⟩ = some (.string e.key) ∧ w.cell? ⟨q, 1, none⟩ = some (.int .i64 e.code) ∧ w.cell? ⟨q, 2, none⟩ = some (.slice a1 n1 c1) ∧ w.cell? ⟨q, 3, none⟩ = some (.slice a2 n2 c2) ∧ w.cell? ⟨q, 4, none⟩ = some (.int .i64 e.port) ∧ w.cell? ⟨q, 5, none⟩ = some (.int .i64 e.life) ∧ w.cell? ⟨q, 6, none⟩ = some (.int .i64 e.exp) ∧ w.cell? ⟨q, 7, none⟩ = some (.slice a3 n3 c3) := by
  refine ⟨?_, ?_, ?_, ?_, ?_, ?_, ?_, ?_⟩ <;> (rw [blk_cell h]; rfl)
/-- A cell of a block that was just made, some calls later. -/
theorem new_cell {w w8 : World} {c : Array Value} {t : TypeId} (h : Below (w.alloc (.cells c t)).heap.size (w.alloc (.cells c t)) w8) (j : Nat) (v : Value) (hj : c[j]? = some v) : w8.cell? ⟨w.heap.size, j, none⟩ = some v := by
  have h1 : (w.alloc (.cells c t)).heap[w.heap.size]? = some (.cells c t (0, 0)) := blk_new w _ _ rfl
  rw [blk_cell (below_blk h h1)]
  exact hj
theorem new_cell2 {w w8 : World} {c c' : Array Value} {t t' : TypeId} (h : Below ((w.alloc (.cells c t)).alloc (.cells c' t')).heap.size ((w.alloc (.cells c t)).alloc (.cells c' t')) w8) (j : Nat) (v : Value) (hj : c[j]? = some v) : w8.cell? ⟨w.heap.size, j, none⟩ = some v := by
  have h1 : ((w.alloc (.cells c t)).alloc (.cells c' t')).heap[w.heap.size]? = some (.cells c t (0, 0)) := lb.blk_alloc (blk_new w _ _ rfl)
  rw [blk_cell (below_blk h h1)]
  exact hj
theorem new_cell3 {w w8 : World} {c c' : Array Value} {t t' : TypeId} (h : Below ((w.alloc (.cells c t)).alloc (.cells c' t')).heap.size ((w.alloc (.cells c t)).alloc (.cells c' t')) w8) (j : Nat) (v : Value) (hj : c'[j]? = some v) : w8.cell? ⟨w.heap.size + 1, j, none⟩ = some v := by
  have h1 : ((w.alloc (.cells c t)).alloc (.cells c' t')).heap[w.heap.size + 1]? = some (.cells c' t' (0, 0)) := blk_new _ _ _ (lb.size_alloc w _)
  rw [blk_cell (below_blk h h1)]
  exact hj
/-- What Put makes of an entry of the call's own, as a slice that is read. -/
theorem put_sb (W w : World) (e : En) (v : Value) (l : List UInt8) (n : Nat) (hk : EnOk e) (h : OwnE W w e v) (hl : putL e = l) (hn : l.length = n) :
    Calls Try.prog 32 #[v] w fun en w' => ∃ ad c, en = .returned (.slice ad n c) ∧ w'.ownsRow w.heap.size 5 1 (.slice ad n c) n (lb.vB l) ∧ lb.SB w' ad l c ∧ Below w.heap.size w w' := by
  subst hl hn
  refine (put_own W w e v hk h).mono ?_
  rintro en w' ⟨u, rfl, ho, hb⟩
  obtain ⟨ad, c, rfl, hs⟩ := lb.own_bytes ho
  exact ⟨ad, c, rfl, ho, hs, hb⟩
theorem drop_sb (w : World) (s : ByteArray) (l : List UInt8) (n : Nat) (hs : s.size ≤ 1000) (hl : dropL s = l) (hn : l.length = n) :
    Calls Try.prog 36 #[.string s] w fun en w' => ∃ ad c, en = .returned (.slice ad n c) ∧ w'.ownsRow w.heap.size 5 1 (.slice ad n c) n (lb.vB l) ∧ lb.SB w' ad l c ∧ Below w.heap.size w w' := by
  subst hl hn
  refine (drop_key w s hs).mono ?_
  rintro en w' ⟨u, rfl, ho, hb⟩
  obtain ⟨ad, c, rfl, hs⟩ := lb.own_bytes ho
  exact ⟨ad, c, rfl, ho, hs, hb⟩
/-- journal.Read of bytes that are no record. -/
theorem read_bad (W : World) (ad : Option Addr) (n c : Nat) (l : List UInt8) (hl : l.length = n) (hn : n ≤ 1000000) (hsb : lb.SB W ad l c) (hr : readOk l = false) :
    Calls Try.prog 35 #[.slice ad n c] W fun en w' => en = .returned (.tuple #[.agg #[.string ⟨#[]⟩, .int .i64 0, .slice none 0 0, .slice none 0 0, .int .i64 0, .int .i64 0, .int .i64 0, .slice none 0 0], .bool false, .iface 32 (.int .i64 10)]) ∧ Below W.heap.size W w' := by
  refine (read_calls W ad n c l hl hn hsb).mono ?_
  rintro en w' ⟨h, hb⟩
  rcases h with ⟨_, h⟩ | ⟨h, _⟩
  · exact ⟨h, hb⟩
  · rw [hr] at h; cases h
/-- journal.Read of a record. -/
theorem read_good (W : World) (ad : Option Addr) (n c : Nat) (l : List UInt8) (hl : l.length = n) (hn : n ≤ 1000000) (hsb : lb.SB W ad l c) (hr : readOk l = true) (E : En) (hE : readE l = E) (b : Bool) (hb : decide (kindL l = 1) = b) :
    Calls Try.prog 35 #[.slice ad n c] W fun en w' => ∃ b1 m1 k1 b2 m2 k2 b3 m3 k3, en = .returned (.tuple #[.agg #[.string E.key, .int .i64 E.code, .slice b1 m1 k1, .slice b2 m2 k2, .int .i64 E.port, .int .i64 E.life, .int .i64 E.exp, .slice b3 m3 k3], .bool b, .nilIface]) ∧ OwnE W w' E (.agg #[.string E.key, .int .i64 E.code, .slice b1 m1 k1, .slice b2 m2 k2, .int .i64 E.port, .int .i64 E.life, .int .i64 E.exp, .slice b3 m3 k3]) ∧ Below W.heap.size W w' := by
  subst hE hb
  refine (read_calls W ad n c l hl hn hsb).mono ?_
  rintro en w' ⟨h, hb⟩
  rcases h with ⟨h, _⟩ | ⟨_, v1, v2, v3, rfl, h1, h2, h3⟩
  · rw [hr] at h; cases h
  · obtain ⟨b1, k1, rfl⟩ := lb.own_shape h1
    obtain ⟨b2, k2, rfl⟩ := lb.own_shape h2
    obtain ⟨b3, k3, rfl⟩ := lb.own_shape h3
    exact ⟨b1, _, k1, b2, _, k2, b3, _, k3, rfl, ⟨_, _, _, rfl, h1, h2, h3⟩, hb⟩
end Go.Proofs.Ytgfkgoiaoglhnaa.jr
