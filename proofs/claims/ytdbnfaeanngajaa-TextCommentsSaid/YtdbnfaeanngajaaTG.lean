/- The walk of the law TextLines. -/
import Derived.Test.YtdbnfaeanngajaaProg
import Derived.WalkKit
import Derived.ProofKit
import Derived.Lib.Hide
import Derived.WalkLawsBesides
import Derived.WalkSpells
import Derived.Deep.RegionWith
import Derived.Deep.QuietTactic
import Derived.BigQuiet
import Derived.OpenShut
import Derived.ChangeSlices
import Derived.Test.YtdbnfaeanngajaaTD
import Derived.Test.YtdbnfaeanngajaaTE
import Derived.Test.YtdbnfaeanngajaaTF
import Derived.Test.YtdbnfaeanngajaaBT
namespace Go.Proofs.Ytdbnfaeanngajaa.tl
open Go Go.RowKit Go.ChangeShapes Go.WideShapes
set_option linter.unusedVariables false
set_option linter.unusedSimpArgs false
set_option maxRecDepth 100000 in
theorem cells_u8 : Try.prog.cellsOf 5 = 1 := by kernel_rfl
set_option maxRecDepth 100000 in
/-- A slice of bytes that came in. -/
theorem bytes_of_trod {H : Type} {enc : TypeId × Value → H} {W : World} {sp : Nat → Bool} {hd : Bool} {base : Nat} {t : TypeId} {v : Value} {d : DataW H} {p : List MemPlace} (ht : Try.prog.underlying t = some (.slice 5))
    (hk : Value.okWide Try.prog W .any base t v) (h : DataW.Trod enc Try.prog W 0 sp hd t v d p) : ∃ ad n c l, v = .slice ad n c ∧ l.length = n ∧ n ≤ c ∧ c ≤ maxLen ∧ BytesAt W ad l := by
  obtain ⟨fuel, h⟩ := h
  obtain ⟨a0, len0, cap0, rfl⟩ := okWide_slice ht hk
  rcases open_ints ht Try.underlying5 cells_u8 h with ⟨h1, h2⟩ | ⟨a, len, cap, zs, h1, _, h2, h3, h4, _, h5, h6⟩
  · simp [Value.cells] at h1
    obtain ⟨rfl, rfl, rfl⟩ := h1
    exact ⟨none, 0, 0, [], rfl, rfl, Nat.le_refl _, by decide, .inl rfl⟩
  · simp [Value.cells] at h1
    obtain ⟨rfl, rfl, rfl⟩ := h1
    have hlen : len0 ≤ zs.length := by rw [h4]; split <;> omega
    refine ⟨some a, len0, cap0, (zs.take len0).map (fun z => z.toNat.toUInt8), rfl, by simp; omega, h2, h3, ?_⟩
    rcases Nat.eq_zero_or_pos len0 with h0 | h0
    · subst h0; exact .inl rfl
    · right
      have hc0 := h5 0 (by omega)
      obtain ⟨b, o, s⟩ := a
      have hs : s = none := by
        unfold World.cell? at hc0
        rw [show (⟨b, o, s⟩ : Addr).add 0 = ⟨b, o, s⟩ from rfl] at hc0
        split at hc0
        · cases s <;> simp_all
        · cases hc0
      subst hs
      refine ⟨b, o, rfl, fun j hj => ?_⟩
      have hj' : j < len0 := by simp at hj; omega
      have hc := h5 j (by omega)
      rw [add_flat] at hc
      rw [hc]
      have hjz : j < zs.length := by omega
      have hg : ((zs.take len0).map (fun z => z.toNat.toUInt8)).getD j 0 = (zs.getD j 0).toNat.toUInt8 := by
        simp [List.getD, List.getElem?_take, hj', hjz]
      have hmem : zs.getD j 0 ∈ zs := by
        simp [List.getD, hjz]
      have hwf := h6 _ hmem
      rw [hg]
      generalize zs.getD j 0 = z at hwf
      simp [Lit.wf, IntKind.min, IntKind.max, IntKind.signed, IntKind.bits] at hwf
      congr 2
      simp
      omega
theorem bytes_take {W : World} {ad : Option Addr} {l : List UInt8} (h : BytesAt W ad l) (m : Nat) : BytesAt W ad (l.take m) := by
  rcases h with h | ⟨b, o, h1, h2⟩
  · subst h; left; simp
  · right
    refine ⟨b, o, h1, fun j hj => ?_⟩
    simp at hj
    rw [h2 j (by omega)]
    simp [List.getD, List.getElem?_take, show j < m by omega]
theorem flat_get : ∀ (xs : List LV) (k : Nat) (hk : k < xs.length), (xs.flatMap lvCells)[k * 2]? = some (.int .i64 ((xs[k]).no : Int)) ∧ (xs.flatMap lvCells)[k * 2 + 1]? = some (xs[k]).v
  | x :: xs, 0, _ => by simp [lvCells]
  | x :: xs, k + 1, hk => by
    have ih := flat_get xs k (by simpa using hk)
    have e : (x :: xs).flatMap lvCells = (.int .i64 (x.no : Int)) :: x.v :: xs.flatMap lvCells := rfl
    rw [e, show (k + 1) * 2 = k * 2 + 1 + 1 by omega]
    simpa using ih
theorem texts_own {w : World} {B : Nat} {v : Value} {ws : List (List UInt8)} (h : w.ownsRow B 9 1 v ws.length (ws.map sV)) : ∃ ad cp, v = .slice ad ws.length cp ∧ TextsAt w ad ws := by
  rcases h.2 with ⟨rfl, h0⟩ | ⟨g, cap, cur, rfl, hb, hg, rest⟩
  · have h0' : ws = [] := by
      rcases ws with _ | ⟨a, l⟩
      · rfl
      · simp at h0
    subst h0'
    exact ⟨none, 0, rfl, .inl rfl⟩
  · refine ⟨_, cap, rfl, .inr ⟨g, 0, rfl, fun j hj => ?_⟩⟩
    rw [h.cellAt (0 + j) (by omega), Nat.zero_add]
    simp [List.getD, hj]
theorem texts_below {W w : World} {ad : Option Addr} {ws : List (List UInt8)} (h : TextsAt W ad ws) (hb : Below W.heap.size W w) : TextsAt w ad ws := by
  rcases h with h | ⟨b, o, h1, h2⟩
  · exact .inl h
  · exact .inr ⟨b, o, h1, fun j hj => (hb.cell (p := ⟨b, o + j, none⟩) (World.block_lt_of_cell? W _ (h2 j hj))).trans (h2 j hj)⟩
theorem bytes_below {W w : World} {ad : Option Addr} {l : List UInt8} (h : BytesAt W ad l) (hb : Below W.heap.size W w) : BytesAt w ad l := by
  rcases h with h | ⟨b, o, h1, h2⟩
  · exact .inl h
  · exact .inr ⟨b, o, h1, fun j hj => (hb.cell (p := ⟨b, o + j, none⟩) (World.block_lt_of_cell? W _ (h2 j hj))).trans (h2 j hj)⟩
theorem lines_shape {w : World} {B e n : Nat} {out : Value} {xs : List LV} (h : LinesAt w B e out xs) (hn : xs.length = n) : ∃ ad cp, out = .slice ad n cp ∧ (n = 0 ∨ ∃ g, ad = some ⟨g, 0, none⟩) := by
  subst hn
  rcases h.1.2 with ⟨rfl, h0⟩ | ⟨g, cap, cur, rfl, _⟩
  · have h0' : xs.length = 0 := by
      rcases xs with _ | ⟨a, l⟩
      · rfl
      · simp at h0
    exact ⟨none, 0, by rw [h0'], .inl h0'⟩
  · exact ⟨_, cap, rfl, .inr ⟨g, rfl⟩⟩
/-- A row of lines, read at a place. -/
theorem lines_at {w : World} {B e k : Nat} {g n c : Nat} {xs : List LV} (h : LinesAt w B e (.slice (some ⟨g, 0, none⟩) n c) xs) (hn : xs.length = n) (hk : k < xs.length) :
    ∃ ad cp, w.cell? ⟨g, k * 2, none⟩ = some (.int .i64 ((xs[k]).no : Int)) ∧ w.cell? ⟨g, k * 2 + 1, none⟩ = some (.slice ad (xs[k]).ws.length cp) ∧ TextsAt w ad (xs[k]).ws := by
  subst hn
  obtain ⟨f1, f2⟩ := flat_get xs k hk
  obtain ⟨ad, cp, hv, ht⟩ := texts_own (h.2 _ (List.getElem_mem hk))
  refine ⟨ad, cp, ?_, ?_, ht⟩
  · rw [h.1.cellAt (k * 2) (by omega), f1]
  · rw [h.1.cellAt (k * 2 + 1) (by omega), f2, hv]
theorem same_keys {m : Nat} {l : List UInt8} {xs ys : List LV} (hl : l.length = m) (hx : xs.map key = linesF m 1 l) (hy : ys.map key = linesGo 0 [] l) : ys.map key = xs.map key := by
  rw [hy, hx, lines_same m l 0 (by omega)]
theorem same_len {xs ys : List LV} (h : ys.map key = xs.map key) : ys.length = xs.length := by
  have := congrArg List.length h
  simpa using this
theorem drewN_below (w : World) (n : Nat) : Below w.heap.size w (w.drewN n) := below_drewN (Below.refl _ _) n
theorem own_max {w : World} {B e sz n : Nat} {v : Value} {xs : List Value} (h : w.ownsRow B e sz v n xs) : n ≤ 9223372036854775807 := by
  rcases h.2 with ⟨_, h0⟩ | ⟨g, cap, cur, _, _, _, h1, h2, _⟩
  · omega
  · unfold maxLen at h2; omega
theorem key_at {xs ys : List LV} (h : ys.map key = xs.map key) {k : Nat} (hx : k < xs.length) (hy : k < ys.length) : (ys[k]).no = (xs[k]).no ∧ (ys[k]).ws = (xs[k]).ws := by
  have : (ys.map key)[k]? = (xs.map key)[k]? := by rw [h]
  simp only [List.getElem?_map, List.getElem?_eq_getElem hx, List.getElem?_eq_getElem hy, Option.map_some, Option.some.injEq, key, Prod.mk.injEq] at this
  exact this
set_option maxRecDepth 100000 in
set_option maxHeartbeats 4000000 in
theorem textlines_walk {H : Type} {enc : TypeId × Value → H} (W : World) (base : Nat) (v0 : Value) (d0 : DataW H) (p0 : List MemPlace) (k0 : Value.okWide Try.prog W .any base 22 v0) (h0 : DataW.Trod enc Try.prog W 0 (fun _ => true) true 22 v0 d0 p0) :
    Calls Try.prog 3 #[v0] W fun e w' => e = .returned (.bool true) ∧ Below W.heap.size W w' := by
  obtain ⟨ad, n, c, l0, rfl, hl0, hnc, hcm, hb0⟩ := bytes_of_trod Try.underlying22 k0 h0
  clear k0 h0
  unfold maxLen at hcm
  obtain ⟨l, hl, hm, hbl⟩ : ∃ l : List UInt8, l.length = min n 1500 ∧ min n 1500 ≤ 1500 ∧ BytesAt W ad l := ⟨l0.take 1500, by simp [hl0]; omega, Nat.min_le_right _ _, bytes_take hb0 1500⟩
  have hmn : min n 1500 ≤ n := Nat.min_le_left _ _
  clear hb0 hl0
  obtain ⟨m, hme⟩ : ∃ m, min n 1500 = m := ⟨_, rfl⟩
  have hsh := fun W => short_calls ad n c 1500 W (by omega) (by decide) hnc
  rw [hme] at hl hm hmn hsh
  have HSH := Lib.hid hsh
  have HBL := Lib.hid hbl
  have HL := Lib.hid hl
  clear hsh hbl hl hme
  go_enter Try.func3, Try.ntmps3
  go_wp2_with (first
    | (go_at_call 12; refine (bgtext.begun _).mono ?_; rintro e w1 ⟨rfl, hb1⟩; have HB1 := Lib.hid hb1; clear hb1)
    | (go_at_call 13; refine (HSH.out _).mono ?_; rintro e w1 ⟨rfl, hw2⟩; obtain rfl := hw2)
    | (go_at_call 14; refine (lines_any ad m c l w1 HL.out (by omega) (by omega) (bytes_below HBL.out HB1.out)).mono ?_; rintro e w2 ⟨v1, xs, rfl, hx1, hxn, hxk, hb2⟩; obtain ⟨N, hN⟩ : ∃ N, xs.length = N := ⟨_, rfl⟩; have HN := Lib.hid hN; clear hN; obtain ⟨a1, c1, rfl, ha1⟩ := lines_shape hx1 HN.out; have HX1 := Lib.hid hx1; have HXK := Lib.hid hxk; have HB2 := Lib.hid hb2; have HA1 := Lib.hid ha1; clear hx1 hxk hb2 ha1)
    | (go_at_call 15; refine (rlines_any ad m c l w2 HL.out (by omega) (by omega) (bytes_below HBL.out (HB1.out.trans (HB2.out.mono HB1.out.size)))).mono ?_; rintro e w3 ⟨v2, ys, rfl, hy1, hyk, hb3⟩; have HKK := Lib.hid (same_keys HL.out HXK.out hyk); clear hyk; obtain ⟨a2, c2, rfl, ha2⟩ := lines_shape hy1 ((same_len HKK.out).trans HN.out); have HY1 := Lib.hid hy1; have HB3 := Lib.hid hb3; have HA2 := Lib.hid ha2; clear hy1 hb3 ha2)
    | fail)
  have HNB : N ≤ 1500 := by have := HN.out; omega
  go_loopw [6] (fun iv wr => ∃ k : Nat, k ≤ N ∧ iv = .int .i64 k ∧ Below w3.heap.size w3 wr) (fun iv _ => N - (intOf iv).toNat)
  case atStart => exact ⟨0, Nat.zero_le _, rfl, Below.refl _ _⟩
  case round =>
    obtain ⟨k, hk, rfl, hbw⟩ := hrel
    have HBW := Lib.hid hbw
    clear hbw
    by_cases hlt : k < N
    · obtain ⟨g1, rfl⟩ := HA1.out.resolve_left (by omega)
      obtain ⟨g2, rfl⟩ := HA2.out.resolve_left (by omega)
      have hkx : k < xs.length := by rw [HN.out]; exact hlt
      have hky : k < ys.length := by rw [same_len HKK.out, HN.out]; exact hlt
      obtain ⟨hno, hws⟩ := key_at HKK.out hkx hky
      obtain ⟨ad1, cp1, e1, e2, t1⟩ := lines_at ((HX1.out.later HB3.out).later HBW.out) HN.out hkx
      obtain ⟨ad2, cp2, e3, e4, t2⟩ := lines_at (HY1.out.later HBW.out) ((same_len HKK.out).trans HN.out) hky
      rw [hno] at e3
      rw [hws] at e4 t2
      have hwl : (xs[k]).ws.length ≤ 9223372036854775807 := own_max (HX1.out.2 _ (List.getElem_mem hkx))
      obtain ⟨ws, hws'⟩ : ∃ ws, (xs[k]).ws = ws := ⟨_, rfl⟩
      obtain ⟨no, hno'⟩ : ∃ no, (xs[k]).no = no := ⟨_, rfl⟩
      rw [hws'] at e2 e4 t1 t2 hwl
      rw [hno'] at e1 e3
      have HT1 := Lib.hid t1
      have HT2 := Lib.hid t2
      clear t1 t2 hno hws hws' hno'
      go_wp2
      go_quiet ((go_at_call 16; exact Calls.quiet_of (eqtexts_same _ _ _ _ ws _ hwl (texts_below HT1.out (drewN_below _ _)) (texts_below HT2.out (drewN_below _ _)))))
      go_wp2
      go_roundw
      case rel => exact ⟨k + 1, by omega, by go_num, below_drewN HBW.out _⟩
      case measure => simp [intOf]; omega
    · obtain rfl : k = N := by omega
      go_wp2
      go_ret
      have c1' := HB1.out
      have c2' := c1'.trans (HB2.out.mono c1'.size)
      have c3' := c2'.trans (HB3.out.mono c2'.size)
      exact ⟨rfl, c3'.trans (HBW.out.mono c3'.size)⟩
end Go.Proofs.Ytdbnfaeanngajaa.tl
