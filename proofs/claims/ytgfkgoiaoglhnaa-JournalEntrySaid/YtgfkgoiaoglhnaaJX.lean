/- The writer of records: text, list. -/
import Derived.Test.YtgfkgoiaoglhnaaProg
import Derived.WalkKit
import Derived.ProofKit
import Derived.Lib.Hide
import Derived.WalkLawsBesides
import Derived.WalkSpells
import Derived.Deep.RegionWith
import Derived.Deep.DeepCutAuto
import Derived.Deep.CutBlock
import Derived.Test.YtgfkgoiaoglhnaaJW
namespace Go.Proofs.Ytgfkgoiaoglhnaa.jr
open Go Go.RowKit
set_option linter.unusedVariables false
set_option linter.unusedSimpArgs false
set_option maxRecDepth 100000 in
set_option maxHeartbeats 4000000 in
theorem wtext_calls (W W0 : World) (k : Nat) (l : List UInt8) (n : Nat) (L : Nat) (s : ByteArray) (bad : Bool) (hs : s.size ≤ 1000) (hL : L ≤ 900000) (hn : l.length = n) (hl : n ≤ 900000) (hb : Below W0.heap.size W0 W) (h : WAt W W0.heap.size k l n (L : Int) bad) :
    Calls Try.prog 55 #[.pointer (some ⟨k, 0, none⟩), .string s] W fun e w' => e = .returned (.tuple #[]) ∧ WAt w' W0.heap.size k (l ++ leB s.size 2 ++ s.data.toList) (n + 2 + s.size) ((L + s.size : Nat) : Int) (bad || decide (300 < s.size) || decide (6000 < L + s.size)) ∧ Below W0.heap.size W0 w' ∧ KW k W w' := by
  obtain ⟨i0, hi, hz0, hz1, hz2⟩ := info_parts info_u8
  obtain ⟨h0, v, h1, ho⟩ := h
  obtain ⟨ad, c, rfl⟩ := lb.own_shape ho
  have H1 := Lib.hid h1
  have HO := Lib.hid ho
  have HB := Lib.hid hb
  have HN := Lib.hid hn
  have c1 := h1.c1
  have f1 := h1.f 1
  clear h1 ho hb hn
  obtain ⟨z, hz⟩ : ∃ z, s.size = z := ⟨_, rfl⟩
  have HZ := Lib.hid hz
  rw [hz] at hs ⊢
  go_enter Try.func55, Try.ntmps55
  go_upto_region 0 with fail
  go_cut [10] (fun bv wx => WB wx k (.slice ad n c) ((L + z : Nat) : Int) bad ∧ wx.ownsRow W0.heap.size 5 1 (.slice ad n c) n (lb.vB l) ∧ Below W0.heap.size W0 wx ∧ KW k W wx)
  case first =>
    go_wp2_with fail
    go_meet
    refine ⟨?_, H1.out.own HO.out, HB.out.setCell h0 _, KW.set _ _ _ _⟩
    have := H1.out.s1 ((L + z : Nat) : Int)
    simpa using this
  case rest =>
    obtain ⟨g1, g2, g3, g4⟩ := hcut
    have G4 := Lib.hid g4
    clear g4
    have G1 := Lib.hid g1
    have G2 := Lib.hid g2
    have G3 := Lib.hid g3
    have c2 := g1.c2
    have c1' := g1.c1
    have f2 := g1.f 2
    clear g1 g2 g3 c1 f1
    go_upto_region 1 with fail
    go_cut [29] (fun bv wx => WB wx k (.slice ad n c) ((L + z : Nat) : Int) (bad || decide (300 < z) || decide (6000 < L + z)) ∧ wx.ownsRow W0.heap.size 5 1 (.slice ad n c) n (lb.vB l) ∧ Below W0.heap.size W0 wx ∧ KW k W wx)
    case first =>
      generalize hb1 : decide (300 < z) = b1
      generalize hb2 : decide (6000 < L + z) = b2
      have hd1 : decide ((300 : Int) < (z : Int)) = b1 := by rw [← hb1, decide_eq_decide]; omega
      have hd2 : decide ((6000 : Int) < (L : Int) + (z : Int)) = b2 := by rw [← hb2, decide_eq_decide]; omega
      have hd3 : decide ((6000 : Int) < ((L + z : Nat) : Int)) = b2 := by rw [← hb2, decide_eq_decide]; omega
      cases b1 <;> cases b2 <;> cases bad
      all_goals
        have h1' : (z : Int) ≤ 300 ∨ 300 < (z : Int) := by omega
        go_wp2_with fail
        go_meet
        refine ⟨?_, G1.out.own G2.out, G3.out.setCell h0 _, G4.out.trans (KW.set _ _ _ _)⟩
        rw [hb1, hb2]
        first | exact G1.out.s2 (true) | exact G1.out.s2 (false)
    case rest =>
      obtain ⟨g1, g2, g3, g4⟩ := hcut
      have G4 := Lib.hid g4
      clear g4
      have c0 := g1.c0
      have G1 := Lib.hid g1
      have G2 := Lib.hid g2
      have G3 := Lib.hid g3
      clear g1 g2 g3 c1' c2 f2
      go_wp2_with (first
        | (go_at_call 53; refine (put_calls _ l z 2 n wc W0 (by omega) (by decide) HN.out (by omega) G3.out G2.out).mono ?_; rintro e w1 ⟨v1, rfl, ho1, hb1, hk1⟩; obtain ⟨a1, cc1, rfl⟩ := lb.own_shape ho1; have g1' := G1.out.kept hk1; have f1 := g1'.f 0; have c1 := g1'.c0; have hq := g1'.s0 (.slice a1 (n + 2) cc1); have HQ := Lib.hid hq; have c5 := hq.c0; have f5 := hq.f 0; have HO1 := Lib.hid (g1'.own (i := 0) (x := .slice a1 (n + 2) cc1) ho1); have hbS : Below W0.heap.size W0 (w1.setCell ⟨k, 0, none⟩ (.slice a1 (n + 2) cc1)) := hb1.setCell h0 _; have HB1 := Lib.hid hbS; clear hbS; have HK1 := Lib.hid hk1; clear ho1 hb1 hk1 g1' hq)
        | (at_builtin; refine lb.catS rfl (.tmp 47) (.tmp 48) 51 9 rfl 5 i0 Try.underlying51 Try.underlying9 hi hz0 hz1 hz2 W0 _ (.slice a1 (n + 2) cc1) (n + 2) (l ++ leB z 2) s rfl HO1.out HB1.out rfl (by have := HZ.out; omega) ?_; intro v2 w2 ho2 hb2 hk2; obtain ⟨a2, cc2, rfl⟩ := lb.own_shape ho2; have g2' := HQ.out.kept hk2; have f7 := g2'.f 0; have c7 := g2'.c0; have G2' := Lib.hid g2'; have HO2 := Lib.hid ho2; have HB2 := Lib.hid hb2; have HK2 := Lib.hid hk2; clear ho2 hb2 hk2 g2')
        | fail)
      refine bodyPost_end (v := .tuple #[]) (by simp [results, show (Try.f55).results = #[] from rfl]) rfl ?_
      refine ⟨rfl, ⟨h0, _, G2'.out.s0 _, ?_⟩, HB2.out.setCell h0 _, ((G4.out.trans (KW.of HK1.out)).trans (KW.set _ _ _ _)).trans ((KW.of HK2.out).trans (KW.set _ _ _ _))⟩
      have := G2'.out.own (i := 0) (x := .slice a2 (n + 2 + s.size) cc2) HO2.out
      rw [HZ.out] at this
      exact this
end Go.Proofs.Ytgfkgoiaoglhnaa.jr
