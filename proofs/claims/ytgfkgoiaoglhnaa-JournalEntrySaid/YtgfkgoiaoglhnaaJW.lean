/- The writer of records: text, num, count over a struct of the call's own. -/
import Derived.Test.YtgfkgoiaoglhnaaProg
import Derived.WalkKit
import Derived.ProofKit
import Derived.Lib.Hide
import Derived.WalkLawsBesides
import Derived.WalkSpells
import Derived.Deep.RegionWith
import Derived.Deep.DeepCutAuto
import Derived.Deep.CutBlock
import Derived.Test.YtgfkgoiaoglhnaaJC
namespace Go.Proofs.Ytgfkgoiaoglhnaa.jr
open Go Go.RowKit
set_option linter.unusedVariables false
set_option linter.unusedSimpArgs false
/-- A writer's block: its bytes' slice, the length of the texts, whether it is bad. -/
def WB (W : World) (k : Nat) (v : Value) (L : Int) (bad : Bool) : Prop := W.heap[k]? = some (.cells #[v, .int .i64 L, .bool bad] 114 (0, 0))
theorem WB.c0 {W : World} {k : Nat} {v : Value} {L : Int} {bad : Bool} (h : WB W k v L bad) : W.cell? ⟨k, 0, none⟩ = some v := by simp [World.cell?, show W.heap[k]? = _ from h]
theorem WB.c1 {W : World} {k : Nat} {v : Value} {L : Int} {bad : Bool} (h : WB W k v L bad) : W.cell? ⟨k, 1, none⟩ = some (.int .i64 L) := by simp [World.cell?, show W.heap[k]? = _ from h]
theorem WB.c2 {W : World} {k : Nat} {v : Value} {L : Int} {bad : Bool} (h : WB W k v L bad) : W.cell? ⟨k, 2, none⟩ = some (.bool bad) := by simp [World.cell?, show W.heap[k]? = _ from h]
theorem WB.f {W : World} {k : Nat} {v : Value} {L : Int} {bad : Bool} (h : WB W k v L bad) (i : Nat) : W.frozen? ⟨k, i, none⟩ = false := by simp [World.frozen?, show W.heap[k]? = _ from h]
theorem WB.s0 {W : World} {k : Nat} {v : Value} {L : Int} {bad : Bool} (h : WB W k v L bad) (u : Value) : WB (W.setCell ⟨k, 0, none⟩ u) k u L bad := by simp [WB, World.setCell, Array.getElem?_modify, show W.heap[k]? = _ from h]
theorem WB.s1 {W : World} {k : Nat} {v : Value} {L : Int} {bad : Bool} (h : WB W k v L bad) (M : Int) : WB (W.setCell ⟨k, 1, none⟩ (.int .i64 M)) k v M bad := by simp [WB, World.setCell, Array.getElem?_modify, show W.heap[k]? = _ from h]
theorem WB.s2 {W : World} {k : Nat} {v : Value} {L : Int} {bad : Bool} (h : WB W k v L bad) (b : Bool) : WB (W.setCell ⟨k, 2, none⟩ (.bool b)) k v L b := by simp [WB, World.setCell, Array.getElem?_modify, show W.heap[k]? = _ from h]
theorem WB.lt {W : World} {k : Nat} {v : Value} {L : Int} {bad : Bool} (h : WB W k v L bad) : k < W.heap.size := by
  rcases Nat.lt_or_ge k W.heap.size with g | g
  · exact g
  · rw [WB, Array.getElem?_eq_none g] at h; cases h
theorem WB.kept {W w' : World} {k : Nat} {v : Value} {L : Int} {bad : Bool} (h : WB W k v L bad) (g : lb.KeptBut 5 W w') : WB w' k v L bad := by
  rw [WB, g.2 k h.lt (by intro cur m; rw [show W.heap[k]? = _ from h]; simp)]; exact h
theorem WB.own {W : World} {k B n i : Nat} {v u x : Value} {L : Int} {bad : Bool} {xs : List Value} (h : WB W k v L bad) (ho : W.ownsRow B 5 1 u n xs) : (W.setCell ⟨k, i, none⟩ x).ownsRow B 5 1 u n xs := by
  refine ownsRow_setCell_other ho ?_ x
  intro hk
  rcases ho.2 with ⟨rfl, _⟩ | ⟨g, cap, cur, rfl, _, hc, _⟩
  · simp [Value.ownBlock] at hk
  · simp [Value.ownBlock] at hk
    subst hk
    rw [show W.heap[g]? = _ from h] at hc
    simp at hc
/-- Only the writer's block and blocks of bytes may have turned. -/
def KW (k : Nat) (W w : World) : Prop := W.heap.size ≤ w.heap.size ∧ ∀ i, i < W.heap.size → i ≠ k → (∀ cur m, W.heap[i]? ≠ some (.cells cur 5 m)) → w.heap[i]? = W.heap[i]?
theorem KW.refl (k : Nat) (W : World) : KW k W W := ⟨Nat.le_refl _, fun _ _ _ _ => rfl⟩
theorem KW.trans {k : Nat} {W w w' : World} (h : KW k W w) (g : KW k w w') : KW k W w' :=
  ⟨Nat.le_trans h.1 g.1, fun i hi hk hn => by
    have e := h.2 i hi hk hn
    exact (g.2 i (Nat.lt_of_lt_of_le hi h.1) hk (fun cur m => by rw [e]; exact hn cur m)).trans e⟩
theorem KW.of {k : Nat} {W w : World} (h : lb.KeptBut 5 W w) : KW k W w := ⟨h.1, fun i hi _ hn => h.2 i hi hn⟩
theorem KW.set (k : Nat) (W : World) (j : Nat) (v : Value) : KW k W (W.setCell ⟨k, j, none⟩ v) := by
  refine ⟨?_, fun i hi hk _ => ?_⟩
  · show W.heap.size ≤ (W.heap.modify _ _).size
    simp
  · show (W.heap.modify _ _)[i]? = _
    rw [Array.getElem?_modify, if_neg (fun h => hk h.symm)]
theorem KW.cell {k : Nat} {W w : World} (h : KW k W w) {b o : Nat} {c : Array Value} {t : TypeId} {m : Nat × Nat} {v : Value} (hb : W.heap[b]? = some (.cells c t m)) (hk : b ≠ k) (ht : t ≠ 5) (hv : c[o]? = some v) : w.cell? ⟨b, o, none⟩ = some v := by
  have e := h.2 b (Array.getElem?_eq_some_iff.1 hb).1 hk (fun cur q hq => by rw [hb] at hq; cases hq; exact ht rfl)
  simp [World.cell?, e, hb, hv]
/-- A writer of the call's own. -/
def WAt (W : World) (B k : Nat) (l : List UInt8) (n : Nat) (L : Int) (bad : Bool) : Prop := B ≤ k ∧ ∃ v, WB W k v L bad ∧ W.ownsRow B 5 1 v n (lb.vB l)
set_option maxRecDepth 100000 in
set_option maxHeartbeats 4000000 in
theorem wnum_calls (W W0 : World) (k : Nat) (l : List UInt8) (n : Nat) (L x : Int) (bad : Bool) (hx : -9223372036854775808 ≤ x ∧ x ≤ 9223372036854775807) (hn : l.length = n) (hl : n ≤ 900000) (hb : Below W0.heap.size W0 W) (h : WAt W W0.heap.size k l n L bad) :
    Calls Try.prog 56 #[.pointer (some ⟨k, 0, none⟩), .int .i64 x] W fun e w' => e = .returned (.tuple #[]) ∧ WAt w' W0.heap.size k (l ++ leB (x % 18446744073709551616).toNat 8) (n + 8) L (bad || decide (x < 0)) ∧ Below W0.heap.size W0 w' ∧ KW k W w' := by
  obtain ⟨h0, v, h1, ho⟩ := h
  obtain ⟨ad, c, rfl⟩ := lb.own_shape ho
  have H1 := Lib.hid h1
  have HO := Lib.hid ho
  have HB := Lib.hid hb
  have HN := Lib.hid hn
  have c2 := h1.c2
  have f2 := h1.f 2
  clear h1 ho hb hn
  obtain ⟨X, hX⟩ : ∃ X : Nat, x % 18446744073709551616 = X := ⟨_, (Int.toNat_of_nonneg (by omega)).symm⟩
  have hX2 : X < 18446744073709551616 := by omega
  have hw : IntKind.u64.wrap x = (X : Int) := by rw [← hX]; rfl
  have HW := Lib.hid hw
  rw [hX, Int.toNat_natCast]
  clear hX hw
  go_enter Try.func56, Try.ntmps56
  go_upto_region 0 with fail
  go_cut [12] (fun bv wx => WB wx k (.slice ad n c) L (bad || decide (x < 0)) ∧ wx.ownsRow W0.heap.size 5 1 (.slice ad n c) n (lb.vB l) ∧ Below W0.heap.size W0 wx ∧ KW k W wx)
  case first =>
    rcases (show x < 0 ∨ 0 ≤ x by omega) with hx0 | hx0 <;> cases bad
    all_goals
      go_wp2_with fail
      go_meet
      refine ⟨?_, H1.out.own HO.out, HB.out.setCell h0 _, KW.set _ _ _ _⟩
      first | (have hd : decide (x < 0) = true := decide_eq_true hx0; rw [hd]; exact H1.out.s2 _) | (have hd : decide (x < 0) = false := decide_eq_false (by omega); rw [hd]; exact H1.out.s2 _) | exact H1.out.s2 _
  case rest =>
    obtain ⟨g1, g2, g3, g4⟩ := hcut
    have G4 := Lib.hid g4
    clear g4
    have c0 := g1.c0
    have G1 := Lib.hid g1
    have G2 := Lib.hid g2
    have G3 := Lib.hid g3
    clear g1 g2 g3
    go_wp2_with (first
      | (go_at_call 53; rw [HW.out]; refine (put_calls _ l X 8 n wc W0 hX2 (by decide) HN.out (by omega) G3.out G2.out).mono ?_; rintro e w1 ⟨v1, rfl, ho1, hb1, hk1⟩; obtain ⟨a1, cc1, rfl⟩ := lb.own_shape ho1; have g1' := G1.out.kept hk1; have f1 := g1'.f 0; have c1 := g1'.c0; have G1' := Lib.hid g1'; have HO1 := Lib.hid ho1; have HB1 := Lib.hid hb1; have HK1 := Lib.hid hk1; clear ho1 hb1 hk1 g1')
      | fail)
    refine bodyPost_end (v := .tuple #[]) (by simp [results, show (Try.f56).results = #[] from rfl]) rfl ?_
    exact ⟨rfl, ⟨h0, _, G1'.out.s0 _, G1'.out.own HO1.out⟩, HB1.out.setCell h0 _, G4.out.trans ((KW.of HK1.out).trans (KW.set _ _ _ _))⟩
set_option maxRecDepth 100000 in
set_option maxHeartbeats 4000000 in
theorem wcount_calls (W W0 : World) (k : Nat) (l : List UInt8) (n : Nat) (L : Int) (x : Nat) (bad : Bool) (hx : x ≤ 9223372036854775807) (hn : l.length = n) (hl : n ≤ 900000) (hb : Below W0.heap.size W0 W) (h : WAt W W0.heap.size k l n L bad) :
    Calls Try.prog 58 #[.pointer (some ⟨k, 0, none⟩), .int .i64 (x : Int)] W fun e w' => e = .returned (.tuple #[]) ∧ WAt w' W0.heap.size k (l ++ [UInt8.ofNat x]) (n + 1) L (bad || decide (64 < x)) ∧ Below W0.heap.size W0 w' ∧ KW k W w' := by
  obtain ⟨i0, hi, hz0, hz1, hz2⟩ := info_parts info_u8
  obtain ⟨h0, v, h1, ho⟩ := h
  obtain ⟨ad, c, rfl⟩ := lb.own_shape ho
  have H1 := Lib.hid h1
  have HO := Lib.hid ho
  have HB := Lib.hid hb
  have HN := Lib.hid hn
  have c2 := h1.c2
  have f2 := h1.f 2
  have hw : lb.vB l ++ [.int .u8 (IntKind.u8.wrap (x : Int))] = lb.vB (l ++ [UInt8.ofNat x]) := by
    rw [lb.vB_app]
    congr 1
  have HW := Lib.hid hw
  clear h1 ho hb hn hw
  go_enter Try.func58, Try.ntmps58
  go_upto_region 0 with fail
  go_cut [12] (fun bv wx => WB wx k (.slice ad n c) L (bad || decide (64 < x)) ∧ wx.ownsRow W0.heap.size 5 1 (.slice ad n c) n (lb.vB l) ∧ Below W0.heap.size W0 wx ∧ KW k W wx)
  case first =>
    rcases (show 64 < x ∨ x ≤ 64 by omega) with hx0 | hx0 <;> cases bad
    all_goals
      go_wp2_with fail
      go_meet
      refine ⟨?_, H1.out.own HO.out, HB.out.setCell h0 _, KW.set _ _ _ _⟩
      first | (have hd : decide (64 < x) = true := decide_eq_true hx0; rw [hd]; exact H1.out.s2 _) | (have hd : decide (64 < x) = false := decide_eq_false (by omega); rw [hd]; exact H1.out.s2 _) | exact H1.out.s2 _ | (have hd : decide ((64 : Int) < (x : Int)) = decide (64 < x) := (by (rw [decide_eq_decide]; omega)); rw [hd]; exact H1.out.s2 _)
  case rest =>
    obtain ⟨g1, g2, g3, g4⟩ := hcut
    have G4 := Lib.hid g4
    clear g4
    have c0 := g1.c0
    have hown := g2
    have hbw := g3
    have G1 := Lib.hid g1
    clear g1 g2 g3
    go_wp2_with (first
      | (at_builtin; refine lb.app1 rfl (.tmp 19) (.tmp 22) 51 rfl 5 i0 (.int .u8 0) 1 1 Try.underlying51 hi hz0 hz1 hz2 rfl (by decide) W0 wc _ n _ [_] rfl hown hbw rfl rfl (by intro u hu; simp at hu; subst hu; rfl) (by omega) (by omega) ?_; intro v1 w1 ho1 hb1 hk1; obtain ⟨a1, cc1, rfl⟩ := lb.own_shape ho1; have g1' := G1.out.kept hk1; have f1 := g1'.f 0; have c1 := g1'.c0; have G1' := Lib.hid g1'; have HO1 := Lib.hid ho1; have HB1 := Lib.hid hb1; have HK1 := Lib.hid hk1; clear ho1 hb1 hk1 g1' hown hbw)
      | go_in)
    refine bodyPost_end (v := .tuple #[]) (by simp [results, show (Try.f58).results = #[] from rfl]) rfl ?_
    refine ⟨rfl, ⟨h0, _, G1'.out.s0 _, G1'.out.own ?_⟩, HB1.out.setCell h0 _, G4.out.trans ((KW.of HK1.out).trans (KW.set _ _ _ _))⟩
    exact own_cast HO1.out HW.out rfl
end Go.Proofs.Ytgfkgoiaoglhnaa.jr
