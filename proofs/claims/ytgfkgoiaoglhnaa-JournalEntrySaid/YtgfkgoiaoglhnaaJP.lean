/- journal.Put: what it makes of an entry. -/
import Derived.Test.YtgfkgoiaoglhnaaProg
import Derived.WalkKit
import Derived.ProofKit
import Derived.Lib.Hide
import Derived.WalkLawsBesides
import Derived.WalkSpells
import Derived.Deep.RegionWith
import Derived.Deep.DeepCutAuto
import Derived.Deep.CutBlock
import Derived.Test.YtgfkgoiaoglhnaaJY
namespace Go.Proofs.Ytgfkgoiaoglhnaa.jr
open Go Go.RowKit
set_option linter.unusedVariables false
set_option linter.unusedSimpArgs false
theorem wList_bound (w : Wr) (X : List ByteArray) (hX : ∀ s ∈ X, s.size ≤ 1000) : (wList w X).b.length ≤ w.b.length + 64129 ∧ (wList w X).L ≤ w.L + 64000 := by
  have h : wList w X = lst w X (min X.length 64) := by
    unfold wList lst
    rcases (show X.length ≤ 64 ∨ 64 < X.length by omega) with h | h
    · rw [List.take_of_length_le h, List.take_of_length_le (by omega)]
    · rw [Nat.min_eq_right (by omega)]
  obtain ⟨h1, h2⟩ := lst_bound w X hX (min X.length 64) (Nat.min_le_left _ _)
  rw [h]
  omega
/-- An entry. -/
structure En where
  key : ByteArray
  code : Int
  names : List ByteArray
  addrs : List ByteArray
  port : Int
  life : Int
  exp : Int
  deps : List (ByteArray × Int)
def p0 : Wr := ⟨[1], 0, false⟩
def p1 (e : En) : Wr := wText p0 e.key
def p2 (e : En) : Wr := ⟨(p1 e).b, 0, (p1 e).bad⟩
def p3 (e : En) : Wr := ⟨(p1 e).b, 0, (p1 e).bad || decide (65535 < e.code) || decide (65535 < e.port)⟩
def nums (e : En) : List Int := [e.code, e.port, e.life, e.exp]
def p4 (e : En) : Wr := (nums e).foldl wNum (p3 e)
def p5 (e : En) : Wr := wList (p4 e) e.names
def p6 (e : En) : Wr := wList (p5 e) e.addrs
def p7 (e : En) : Wr := wCount (p6 e) e.deps.length
def wDep (w : Wr) (d : ByteArray × Int) : Wr := wNum (wText w d.1) d.2
def p8 (e : En) (j : Nat) : Wr := (e.deps.take j).foldl wDep (p7 e)
def putW (e : En) : Wr := (e.deps.take 64).foldl wDep (p7 e)
def putL (e : En) : List UInt8 := if (putW e).bad = true ∨ 8192 < (putW e).b.length then [] else (putW e).b
/-- Texts and numbers of an entry that are not too long. -/
def EnOk (e : En) : Prop := e.key.size ≤ 1000 ∧ (∀ s ∈ e.names, s.size ≤ 1000) ∧ (∀ s ∈ e.addrs, s.size ≤ 1000) ∧ (∀ d ∈ e.deps, d.1.size ≤ 1000) ∧ e.names.length ≤ 1000 ∧ e.addrs.length ≤ 1000 ∧ e.deps.length ≤ 1000 ∧ (∀ x ∈ nums e, -9223372036854775808 ≤ x ∧ x ≤ 9223372036854775807) ∧ (∀ d ∈ e.deps, -9223372036854775808 ≤ d.2 ∧ d.2 ≤ 9223372036854775807)
theorem p1_b (e : En) (h : EnOk e) : (p1 e).b.length ≤ 1003 := by
  have := h.1
  unfold p1
  rw [wText_len]
  show [1].length + 2 + _ ≤ _
  simp; omega
theorem nums_b (l : List Int) : ∀ w : Wr, (l.foldl wNum w).b.length = w.b.length + 8 * l.length ∧ (l.foldl wNum w).L = w.L := by
  induction l with
  | nil => intro w; simp
  | cons x l ih =>
    intro w
    obtain ⟨h1, h2⟩ := ih (wNum w x)
    simp only [List.foldl_cons]
    rw [h1, h2, wNum_len]
    exact ⟨by simp; omega, rfl⟩
theorem p4_b (e : En) (h : EnOk e) : (p4 e).b.length ≤ 1035 ∧ (p4 e).L = 0 := by
  obtain ⟨h1, h2⟩ := nums_b (nums e) (p3 e)
  have := p1_b e h
  unfold p4
  rw [h1, h2]
  exact ⟨by show (p1 e).b.length + 8 * 4 ≤ 1035; omega, rfl⟩
theorem p5_b (e : En) (h : EnOk e) : (p5 e).b.length ≤ 65164 ∧ (p5 e).L ≤ 64000 := by
  have := wList_bound (p4 e) e.names h.2.1
  have := p4_b e h
  unfold p5
  omega
theorem p6_b (e : En) (h : EnOk e) : (p6 e).b.length ≤ 129293 ∧ (p6 e).L ≤ 128000 := by
  have := wList_bound (p5 e) e.addrs h.2.2.1
  have := p5_b e h
  unfold p6
  omega
theorem p7_b (e : En) (h : EnOk e) : (p7 e).b.length ≤ 129294 ∧ (p7 e).L ≤ 128000 := by
  have := p6_b e h
  have hl : (p7 e).b.length = (p6 e).b.length + 1 := wCount_len _ _
  have : (p7 e).L = (p6 e).L := rfl
  omega
theorem p8_succ (e : En) (j : Nat) (h : j < e.deps.length) : p8 e (j + 1) = wDep (p8 e j) e.deps[j] := by
  unfold p8
  rw [List.take_succ_eq_append_getElem h, List.foldl_append]
  rfl
theorem p8_all (e : En) : p8 e (min e.deps.length 64) = putW e := by
  unfold p8 putW
  rcases (show e.deps.length ≤ 64 ∨ 64 < e.deps.length by omega) with h | h
  · rw [List.take_of_length_le (by omega), List.take_of_length_le h]
  · rw [Nat.min_eq_right (by omega)]
theorem p8_b (e : En) (h : EnOk e) : ∀ j, j ≤ e.deps.length → (p8 e j).b.length ≤ 129294 + 1010 * j ∧ (p8 e j).L ≤ 128000 + 1000 * j
  | 0, _ => by simpa [p8] using p7_b e h
  | j + 1, hj => by
    have ih := p8_b e h j (by omega)
    have hs := h.2.2.2.1 _ (List.getElem_mem (show j < e.deps.length by omega))
    rw [p8_succ e j (by omega)]
    unfold wDep
    rw [wNum_len, wText_len]
    refine ⟨by omega, ?_⟩
    show (p8 e j).L + _ ≤ _
    omega
/-- Dependencies that came in. -/
def DepsIn (W : World) (ad : Option Addr) (D : List (ByteArray × Int)) : Prop := D = [] ∨ ∃ b o, ad = some ⟨b, o, none⟩ ∧ ∀ k (h : k < D.length), W.cell? ⟨b, o + k * 2, none⟩ = some (.string (D[k]).1) ∧ W.cell? ⟨b, o + k * 2 + 1, none⟩ = some (.int .i64 (D[k]).2)
theorem DepsIn.below {W w : World} {ad : Option Addr} {D : List (ByteArray × Int)} (h : DepsIn W ad D) (hb : Below W.heap.size W w) : DepsIn w ad D := by
  rcases h with h | ⟨b, o, h1, h2⟩
  · exact .inl h
  · exact .inr ⟨b, o, h1, fun k hk => ⟨(hb.cell (p := ⟨b, o + k * 2, none⟩) (World.block_lt_of_cell? W _ (h2 k hk).1)).trans (h2 k hk).1, (hb.cell (p := ⟨b, o + k * 2 + 1, none⟩) (World.block_lt_of_cell? W _ (h2 k hk).2)).trans (h2 k hk).2⟩⟩
/-- An entry as it lies in a value. -/
structure EnAt (W : World) (e : En) (a1 a2 a3 : Option Addr) (n1 c1 n2 c2 n3 c3 : Nat) : Prop where
  ln : e.names.length = n1
  la : e.addrs.length = n2
  ld : e.deps.length = n3
  c1 : n1 ≤ c1
  c2 : n2 ≤ c2
  c3 : n3 ≤ c3
  tn : TextsIn W a1 e.names
  ta : TextsIn W a2 e.addrs
  td : DepsIn W a3 e.deps
theorem EnAt.below {W w : World} {e : En} {a1 a2 a3 : Option Addr} {n1 c1 n2 c2 n3 c3 : Nat} (h : EnAt W e a1 a2 a3 n1 c1 n2 c2 n3 c3) (hb : Below W.heap.size W w) : EnAt w e a1 a2 a3 n1 c1 n2 c2 n3 c3 :=
  ⟨h.ln, h.la, h.ld, h.c1, h.c2, h.c3, h.tn.below hb, h.ta.below hb, h.td.below hb⟩
def enCells (e : En) (a1 a2 a3 : Option Addr) (n1 c1 n2 c2 n3 c3 : Nat) : Array Value := #[.string e.key, .int .i64 e.code, .slice a1 n1 c1, .slice a2 n2 c2, .int .i64 e.port, .int .i64 e.life, .int .i64 e.exp, .slice a3 n3 c3]
theorem ws_p2 {W : World} {B k : Nat} {e : En} (h : WS W B k (p1 e)) : WS (W.setCell ⟨k, 1, none⟩ (.int .i64 0)) B k (p2 e) := by
  obtain ⟨h0, v, h1, h2⟩ := h
  exact ⟨h0, v, h1.s1 0, h1.own h2⟩
theorem ws_p3 {W : World} {B k : Nat} {e : En} (h : WS W B k (p2 e)) (b : Bool) (hb : b = (p3 e).bad) : WS (W.setCell ⟨k, 2, none⟩ (.bool b)) B k (p3 e) := by
  obtain ⟨h0, v, h1, h2⟩ := h
  refine ⟨h0, v, ?_, h1.own h2⟩
  subst hb
  exact h1.s2 _
theorem ws_alloc {W : World} {B k : Nat} {w : Wr} (h : WS W B k w) (o : Obj) : WS (W.alloc o) B k w := by
  obtain ⟨h0, v, h1, h2⟩ := h
  exact ⟨h0, v, lb.blk_alloc h1, h2.alloc o⟩
theorem ws_lt {W : World} {B k : Nat} {w : Wr} (h : WS W B k w) : k < W.heap.size := by
  obtain ⟨h0, v, h1, h2⟩ := h
  exact h1.lt
theorem kw_blk {k q : Nat} {W w : World} (h : KW k W w) {c : Array Value} {t : TypeId} {m : Nat × Nat} (hb : W.heap[q]? = some (.cells c t m)) (hk : q ≠ k) (ht : t ≠ 5) : w.heap[q]? = some (.cells c t m) := by
  rw [h.2 q (Array.getElem?_eq_some_iff.1 hb).1 hk (fun cur q hq => by rw [hb] at hq; cases hq; exact ht rfl)]
  exact hb
theorem blk_cell {w : World} {q j : Nat} {c : Array Value} {t : TypeId} {m : Nat × Nat} (h : w.heap[q]? = some (.cells c t m)) : w.cell? ⟨q, j, none⟩ = c[j]? := by simp [World.cell?, h]
def pn (e : En) (j : Nat) : Wr := ((nums e).take j).foldl wNum (p3 e)
theorem pn_succ (e : En) (j : Nat) (h : j < (nums e).length) : pn e (j + 1) = wNum (pn e j) (nums e)[j] := by
  unfold pn
  rw [List.take_succ_eq_append_getElem h, List.foldl_append]
  rfl
theorem pn_b (e : En) (h : EnOk e) (j : Nat) : (pn e j).b.length ≤ 2000 := by
  have h1 := (nums_b ((nums e).take j) (p3 e)).1
  have h2 := p1_b e h
  have h3 : ((nums e).take j).length ≤ 4 := by simp [nums]; omega
  unfold pn
  rw [h1]
  show (p1 e).b.length + 8 * _ ≤ _
  omega
theorem ws_facts {W : World} {B k : Nat} {w : Wr} (h : WS W B k w) : ∃ v, B ≤ k ∧ W.cell? ⟨k, 0, none⟩ = some v ∧ W.cell? ⟨k, 1, none⟩ = some (.int .i64 (w.L : Int)) ∧ W.cell? ⟨k, 2, none⟩ = some (.bool w.bad) ∧ (∀ i, W.frozen? ⟨k, i, none⟩ = false) ∧ W.ownsRow B 5 1 v w.b.length (lb.vB w.b) := by
  obtain ⟨h0, v, h1, h2⟩ := h
  exact ⟨v, h0, h1.c0, h1.c1, h1.c2, h1.f, h2⟩
theorem blk_new (w : World) (o : Obj) (p : Nat) (hp : p = w.heap.size) : (w.alloc o).heap[p]? = some o := by
  subst hp
  show (w.heap.push o)[w.heap.size]? = _
  simp
theorem ws_start (W0 : World) (q : Nat) (c : UInt8) (hq : q = W0.heap.size) : WS ((W0.alloc (.cells #[.int .u8 (c.toNat : Int)] 5)).alloc (.cells #[.slice (some ⟨q, 0, none⟩) 1 1, .int .i64 0, .bool false] 114)) W0.heap.size (q + 1) ⟨[c], 0, false⟩ := by
  subst hq
  refine ⟨by omega, .slice (some ⟨W0.heap.size, 0, none⟩) 1 1, ?_, ?_⟩
  · exact blk_new _ _ _ (lb.size_alloc W0 _)
  · exact (lb.own_made W0 5 1 [.int .u8 (c.toNat : Int)] rfl (by decide)).alloc _
set_option maxRecDepth 100000 in
set_option maxHeartbeats 8000000 in
theorem put_entry (W : World) (e : En) (a1 a2 a3 : Option Addr) (n1 c1 n2 c2 n3 c3 : Nat) (hk : EnOk e) (he : EnAt W e a1 a2 a3 n1 c1 n2 c2 n3 c3) :
    Calls Try.prog 32 #[.agg (enCells e a1 a2 a3 n1 c1 n2 c2 n3 c3)] W fun en w' => ∃ v, en = .returned v ∧ w'.ownsRow W.heap.size 5 1 v (putL e).length (lb.vB (putL e)) ∧ Below W.heap.size W w' := by
  obtain ⟨W0, hW0⟩ : ∃ W0, W0 = W.alloc (.cells (enCells e a1 a2 a3 n1 c1 n2 c2 n3 c3) 64) := ⟨_, rfl⟩
  have hBW : Below W.heap.size W W0 := by rw [hW0]; exact lb.below_alloc _ _
  have hE : ∀ j, W0.cell? ⟨W.heap.size, j, none⟩ = (enCells e a1 a2 a3 n1 c1 n2 c2 n3 c3)[j]? := fun j => by rw [hW0]; exact World.cell?_alloc_mark _ _ _ _ j
  have hE2 : ∀ w, Below W0.heap.size W0 w → (w.cell? ⟨W.heap.size, 0, none⟩ = some (.string e.key) ∧ w.cell? ⟨W.heap.size, 1, none⟩ = some (.int .i64 e.code) ∧ w.cell? ⟨W.heap.size, 2, none⟩ = some (.slice a1 n1 c1) ∧ w.cell? ⟨W.heap.size, 3, none⟩ = some (.slice a2 n2 c2) ∧ w.cell? ⟨W.heap.size, 4, none⟩ = some (.int .i64 e.port) ∧ w.cell? ⟨W.heap.size, 5, none⟩ = some (.int .i64 e.life) ∧ w.cell? ⟨W.heap.size, 6, none⟩ = some (.int .i64 e.exp) ∧ w.cell? ⟨W.heap.size, 7, none⟩ = some (.slice a3 n3 c3)) := fun w hb => by
    have one : ∀ j v, (enCells e a1 a2 a3 n1 c1 n2 c2 n3 c3)[j]? = some v → w.cell? ⟨W.heap.size, j, none⟩ = some v := fun j v hj => (hb.cell (p := ⟨W.heap.size, j, none⟩) (World.block_lt_of_cell? _ _ ((hE j).trans hj))).trans ((hE j).trans hj)
    exact ⟨one 0 _ rfl, one 1 _ rfl, one 2 _ rfl, one 3 _ rfl, one 4 _ rfl, one 5 _ rfl, one 6 _ rfl, one 7 _ rfl⟩
  have HE := Lib.hid hE2
  have HBW := Lib.hid hBW
  have HAT := Lib.hid (he.below hBW)
  have HK := Lib.hid hk
  have HW0 := Lib.hid hW0
  obtain ⟨k, hkk⟩ : ∃ k, k = W.heap.size + 2 := ⟨_, rfl⟩
  have HKK := Lib.hid hkk
  have hsz : W0.heap.size = W.heap.size + 1 := by rw [hW0]; exact (lb.size_alloc _ _).symm
  clear hBW hE hE2 hk he hW0 hkk
  unfold enCells
  go_enter Try.func32, Try.ntmps32
  go_upto_region 1 with fail
  go_cut [3] (fun pv wx => pv = .pointer (some ⟨k, 0, none⟩) ∧ WS wx W0.heap.size k p0 ∧ Below W0.heap.size W0 wx)
  case first =>
    go_wp2_with fail
    go_meet
    have hst := ws_start W0 (W.heap.size + 1) 1 hsz.symm
    have hbs : Below W0.heap.size W0 ((W0.alloc (.cells #[.int .u8 1] 5)).alloc (.cells #[.slice (some ⟨W.heap.size + 1, 0, none⟩) 1 1, .int .i64 0, .bool false] 114)) := (lb.below_alloc W0 _).alloc (lb.below_alloc W0 _).size _
    have e2 : k = W.heap.size + 1 + 1 := HKK.out
    rw [e2]
    have hw0 := HW0.out
    unfold enCells at hw0
    rw [← hw0]
    exact ⟨rfl, hst, hbs⟩
  case rest =>
    obtain ⟨rfl, hws, hb0⟩ := hcut
    obtain ⟨e0, _⟩ := HE.out _ hb0
    have HWS := Lib.hid hws
    have HB0 := Lib.hid hb0
    clear hws hb0
    go_upto_region 2 with fail
    go_cut [3] (fun pv wx => pv = .pointer (some ⟨k, 0, none⟩) ∧ WS wx W0.heap.size k (p1 e) ∧ Below W0.heap.size W0 wx)
    case first =>
      have HT := Lib.hid (text_ws wc W0 k p0 e.key HK.out.1 (by show 0 ≤ 900000; omega) (by show 1 ≤ 900000; omega) HB0.out HWS.out)
      go_wp2_with (first
        | (go_at_call 55; refine HT.out.mono ?_; rintro e w2 ⟨rfl, h2, hb2, _⟩; have H2 := Lib.hid h2; have HB2 := Lib.hid hb2; clear h2 hb2)
        | fail)
      go_meet
      exact ⟨rfl, H2.out, HB2.out⟩
    case rest =>
    obtain ⟨rfl, hws, hb0⟩ := hcut
    obtain ⟨v, hk0, _, g1, g2, gf, _⟩ := ws_facts hws
    have g1f := gf 1
    have HWS := Lib.hid hws
    have HB0 := Lib.hid hb0
    clear hws hb0 g2 gf e0
    go_upto_region 3 with fail
    go_cut [3] (fun pv wx => pv = .pointer (some ⟨k, 0, none⟩) ∧ WS wx W0.heap.size k (p2 e) ∧ Below W0.heap.size W0 wx)
    case first =>
      go_wp2_with fail
      go_meet
      exact ⟨rfl, ws_p2 HWS.out, HB0.out.setCell hk0 _⟩
    case rest =>
    obtain ⟨rfl, hws, hb0⟩ := hcut
    obtain ⟨v, _, _, _, g2, gf, _⟩ := ws_facts hws
    have g2f := gf 2
    obtain ⟨_, e1, _, _, e4, _⟩ := HE.out _ hb0
    have HWS := Lib.hid hws
    have HB0 := Lib.hid hb0
    clear hws hb0 gf g1 g1f
    go_upto_region 4 with fail
    go_cut [3] (fun pv wx => pv = .pointer (some ⟨k, 0, none⟩) ∧ WS wx W0.heap.size k (p3 e) ∧ Below W0.heap.size W0 wx)
    case first =>
      have hp3 : ∀ b, b = ((p2 e).bad || decide (65535 < e.code) || decide (65535 < e.port)) → b = (p3 e).bad := fun b h => h
      have HP3 := Lib.hid hp3
      clear hp3
      generalize hb1 : decide (65535 < e.code) = b1 at *
      generalize hb2 : decide (65535 < e.port) = b2 at *
      generalize hb3 : (p2 e).bad = b3 at *
      cases b1 <;> cases b2 <;> cases b3
      all_goals
        go_wp2_with fail
        go_meet
        exact ⟨rfl, ws_p3 HWS.out _ (HP3.out _ rfl), HB0.out.setCell hk0 _⟩
    case rest =>
    obtain ⟨rfl, hws, hb0⟩ := hcut
    obtain ⟨_, e1, _, _, e4, e5, e6, _⟩ := HE.out _ hb0
    have HWS := Lib.hid hws
    have HB0 := Lib.hid hb0
    clear hws hb0 g2 g2f
    have hkq : k < wc.heap.size := ws_lt HWS.out
    go_wp2_with fail
    obtain ⟨q, hq⟩ : ∃ q, q = wc.heap.size := ⟨_, rfl⟩
    have HQ := Lib.hid hq
    have START : Hid (WS (wc.alloc (.cells #[.int .i64 e.code, .int .i64 e.port, .int .i64 e.life, .int .i64 e.exp] 2)) W0.heap.size k (pn e 0) ∧ Below W0.heap.size W0 (wc.alloc (.cells #[.int .i64 e.code, .int .i64 e.port, .int .i64 e.life, .int .i64 e.exp] 2)) ∧ (wc.alloc (.cells #[.int .i64 e.code, .int .i64 e.port, .int .i64 e.life, .int .i64 e.exp] 2)).heap[q]? = some (.cells #[.int .i64 e.code, .int .i64 e.port, .int .i64 e.life, .int .i64 e.exp] 2 (0, 0))) := Lib.hid ⟨ws_alloc HWS.out _, HB0.out.alloc HB0.out.size _, blk_new _ _ _ hq⟩
    rw [← hq] at hkq ⊢
    clear hq e1 e4 e5 e6
    go_loopw [48] (fun iv wr => ∃ j : Nat, j ≤ 4 ∧ iv = .int .i64 (j : Int) ∧ WS wr W0.heap.size k (pn e j) ∧ Below W0.heap.size W0 wr ∧ wr.heap[q]? = some (.cells #[.int .i64 e.code, .int .i64 e.port, .int .i64 e.life, .int .i64 e.exp] 2 (0, 0))) (fun iv _ => 4 - (intOf iv).toNat)
    case atStart => exact ⟨0, by omega, rfl, START.out.1, START.out.2.1, START.out.2.2⟩
    case round =>
      obtain ⟨j, hj, rfl, hws, hb, hblk⟩ := hrel
      have HW := Lib.hid hws
      have HBR := Lib.hid hb
      have HBL := Lib.hid hblk
      clear hws hb hblk
      rcases (show j < 4 ∨ j = 4 by omega) with hj4 | rfl
      · have hjl : j < (nums e).length := hj4
        obtain ⟨x, hx⟩ : ∃ x, (nums e)[j] = x := ⟨_, rfl⟩
        have hxr := HK.out.2.2.2.2.2.2.2.1 x (hx ▸ List.getElem_mem hjl)
        have hsu := pn_succ e j hjl
        rw [hx] at hsu
        have HSU := Lib.hid hsu
        have hcell : wr.cell? ⟨q, j, none⟩ = some (.int .i64 x) := by
          rw [blk_cell HBL.out, ← hx]
          rcases (show j = 0 ∨ j = 1 ∨ j = 2 ∨ j = 3 by omega) with rfl | rfl | rfl | rfl <;> rfl
        have HN := Lib.hid (num_ws wr W0 k (pn e j) x hxr (by have := pn_b e HK.out j; omega) HBR.out HW.out)
        clear hx hxr hsu
        go_wp2_with (first
          | (go_at_call 56; refine HN.out.mono ?_; rintro en w2 ⟨rfl, h2, hb2, hk2⟩; have H2 := Lib.hid h2; have HB2 := Lib.hid hb2; have HL2 := Lib.hid (kw_blk hk2 HBL.out (by omega) (by decide)); clear h2 hb2 hk2)
          | fail)
        exact ⟨⟨j + 1, by omega, by go_num, by rw [HSU.out]; exact H2.out, HB2.out, HL2.out⟩, by simp [intOf]; omega⟩
      · obtain ⟨_, _, e2, e3, _, _, _, e7⟩ := HE.out _ HBR.out
        have h4b := p4_b e HK.out
        have h5b := p5_b e HK.out
        have h6b := p6_b e HK.out
        have h7b := p7_b e HK.out
        have hl1 : n1 ≤ 1000 := by have := HAT.out.ln; have := HK.out.2.2.2.2.1; omega
        have hl2 : n2 ≤ 1000 := by have := HAT.out.la; have := HK.out.2.2.2.2.2.1; omega
        have hl3 : n3 ≤ 1000 := by have := HAT.out.ld; have := HK.out.2.2.2.2.2.2.1; omega
        have HW4 : Hid (WS wr W0.heap.size k (p4 e)) := Lib.hid HW.out
        go_upto_region 13 with (first
          | (go_at_call 57; refine (list_ws _ W0 k n1 c1 a1 (p4 e) e.names HAT.out.ln (by omega) HAT.out.c1 HK.out.2.1 HAT.out.tn (by omega) (by omega) HBR.out HW4.out).mono ?_; rintro en w5 ⟨rfl, h5, hb5, hk5⟩; have H5 := Lib.hid h5; have HB5 := Lib.hid hb5; obtain ⟨_, _, _, e3', _, _, _, _⟩ := HE.out _ hb5; clear h5 hb5 hk5 HW4)
          | (go_at_call 57; refine (list_ws _ W0 k n2 c2 a2 (p5 e) e.addrs HAT.out.la (by omega) HAT.out.c2 HK.out.2.2.1 HAT.out.ta (by omega) (by omega) HB5.out H5.out).mono ?_; rintro en w6 ⟨rfl, h6, hb6, hk6⟩; have H6 := Lib.hid h6; have HB6 := Lib.hid hb6; obtain ⟨_, _, _, _, _, _, _, e7'⟩ := HE.out _ hb6; clear h6 hb6 hk6 H5)
          | (go_at_call 58; refine (count_ws _ W0 k (p6 e) n3 (by omega) (by omega) HB6.out H6.out).mono ?_; rintro en w7 ⟨rfl, h7, hb7, hk7⟩; rw [← HAT.out.ld] at h7; have H7 : Hid (WS w7 W0.heap.size k (p7 e)) := Lib.hid h7; have HB7 := Lib.hid hb7; clear h7 hb7 hk7 H6)
          | fail)
        obtain ⟨m, hm⟩ : ∃ m, min n3 64 = m := ⟨_, rfl⟩
        have hm1 : m ≤ n3 ∧ m ≤ 64 := by omega
        have hmm : m = n3 ∧ n3 ≤ 64 ∨ m = 64 ∧ 64 < n3 := by omega
        have hmc : m ≤ c3 := by have := HAT.out.c3; omega
        have hall : p8 e m = putW e := by rw [← p8_all, HAT.out.ld, hm]
        have HALL := Lib.hid hall
        obtain ⟨_, _, _, _, _, _, _, e7''⟩ := HE.out _ HB7.out
        clear hall hm e7 e7' e2 e3 e3'
        go_cut [77, 78, 79] (fun sv lv iv wx => sv = .slice a3 m c3 ∧ lv = .int .i64 (m : Int) ∧ iv = .int .i64 0 ∧ wx = w7)
        case first =>
          rcases hmm with ⟨rfl, h64⟩ | ⟨rfl, h64⟩
          · go_wp2
            all_goals (go_meet; exact ⟨rfl, rfl, rfl, rfl⟩)
          · go_wp2
            all_goals (go_meet; exact ⟨rfl, rfl, rfl, rfl⟩)
        case rest =>
          obtain ⟨rfl, rfl, rfl, rfl⟩ := hcut
          clear hmm e7''
          go_wp2_with fail
          go_loopw [79] (fun iv wr => ∃ j : Nat, j ≤ m ∧ iv = .int .i64 (j : Int) ∧ WS wr W0.heap.size k (p8 e j) ∧ Below W0.heap.size W0 wr) (fun iv _ => m - (intOf iv).toNat)
          case atStart => exact ⟨0, by omega, rfl, H7.out, HB7.out⟩
          case round =>
            obtain ⟨j, hj, rfl, hws, hb⟩ := hrel
            have HWR := Lib.hid hws
            have HBX := Lib.hid hb
            have hklt := ws_lt hws
            clear hws hb
            rcases (show j < m ∨ j = m by omega) with hjm | rfl
            · have hjD : j < e.deps.length := by rw [HAT.out.ld]; omega
              obtain ⟨b, o, rfl, hc⟩ := HAT.out.td.resolve_left (by intro h0; rw [h0] at hjD; cases hjD)
              have ec1 := (HBX.out.cell (p := ⟨b, o + j * 2, none⟩) (World.block_lt_of_cell? W0 _ (hc j hjD).1)).trans (hc j hjD).1
              have ec2 := (HBX.out.cell (p := ⟨b, o + j * 2 + 1, none⟩) (World.block_lt_of_cell? W0 _ (hc j hjD).2)).trans (hc j hjD).2
              have hpl := HK.out.2.2.2.1 _ (List.getElem_mem hjD)
              have hst := HK.out.2.2.2.2.2.2.2.2 _ (List.getElem_mem hjD)
              obtain ⟨hb1, hb2⟩ := p8_b e HK.out j (by omega)
              have hsu := p8_succ e j hjD
              obtain ⟨⟨pp, st⟩, hd⟩ : ∃ d, e.deps[j] = d := ⟨_, rfl⟩
              rw [hd] at ec1 ec2 hpl hst hsu
              simp only at ec1 ec2 hpl hst
              have HSU := Lib.hid hsu
              have HT := Lib.hid (text_ws (wr.alloc (.cells #[.string pp, .int .i64 st] 120)) W0 k (p8 e j) pp hpl (by omega) (by omega) (HBX.out.alloc HBX.out.size _) (ws_alloc HWR.out _))
              have htl := wText_len (p8 e j) pp
              have HTL : Hid ((wText (p8 e j) pp).b.length ≤ 900000) := Lib.hid (by rw [htl]; omega)
              clear hc hsu hd hb1 hb2 htl
              go_wp2_with (first
                | (go_at_call 55; refine HT.out.mono ?_; rintro en w8 ⟨rfl, h8, hb8, hk8⟩; have H8 := Lib.hid h8; have HB8 := Lib.hid hb8; have e9 := (blk_cell (j := 1) (kw_blk hk8 (blk_new wr (.cells #[.string pp, .int .i64 st] 120) _ rfl) (by omega) (by decide))); simp only [List.getElem?_toArray, List.getElem?_cons_succ, List.getElem?_cons_zero] at e9; clear h8 hb8 hk8)
                | (go_at_call 56; refine (num_ws w8 W0 k (wText (p8 e j) pp) st hst HTL.out HB8.out H8.out).mono ?_; rintro en w9 ⟨rfl, h9, hb9, hk9⟩; have H9 := Lib.hid h9; have HB9 := Lib.hid hb9; clear h9 hb9 hk9)
                | fail)
              exact ⟨⟨j + 1, by omega, by go_num, by rw [HSU.out]; exact H9.out, HB9.out⟩, by simp [intOf]; omega⟩
            · have hput : WS wr W0.heap.size k (putW e) := by rw [← HALL.out]; exact HWR.out
              obtain ⟨hb1, hb2⟩ := p8_b e HK.out j (by have := HAT.out.ld; omega)
              rw [HALL.out] at hb1
              obtain ⟨v, hk0, g0, g1, g2, gf, hown⟩ := ws_facts hput
              obtain ⟨av, cv, rfl⟩ := lb.own_shape hown
              have HOW := Lib.hid (lb.own_base (B := W.heap.size) hown (by omega))
              have HFB := Lib.hid (lb.below_then HBW.out HBX.out)
              have hpl : ((putW e).bad = true ∨ 8192 < (putW e).b.length) → putL e = [] := fun h => by unfold putL; rw [if_pos h]
              have hpk : (putW e).bad = false → (putW e).b.length ≤ 8192 → putL e = (putW e).b := fun h h' => by unfold putL; rw [if_neg (by rw [h]; simp; omega)]
              have HPL := Lib.hid hpl
              have HPK := Lib.hid hpk
              generalize hlen : (putW e).b.length = ln at *
              generalize hbad : (putW e).bad = bd at *
              clear hput hown gf hpl hpk hb2
              cases bd
              · rcases (show 8192 < ln ∨ ln ≤ 8192 by omega) with h | h
                · have hp := Lib.hid (HPL.out (.inr h))
                  go_wp2_with fail
                  go_ret
                  exact ⟨_, rfl, by rw [hp.out]; exact lb.own_nil _ _ _ _, HFB.out⟩
                · have hp := Lib.hid (HPK.out rfl h)
                  have HLEN := Lib.hid hlen
                  clear hlen
                  go_wp2_with fail
                  go_ret
                  exact ⟨_, rfl, by rw [hp.out, HLEN.out]; exact HOW.out, HFB.out⟩
              · have hp := Lib.hid (HPL.out (.inl rfl))
                go_wp2_with fail
                go_ret
                exact ⟨_, rfl, by rw [hp.out]; exact lb.own_nil _ _ _ _, HFB.out⟩
end Go.Proofs.Ytgfkgoiaoglhnaa.jr
