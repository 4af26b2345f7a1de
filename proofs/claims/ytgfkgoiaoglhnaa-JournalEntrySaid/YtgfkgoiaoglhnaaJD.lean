/- journal.Drop: what it makes of a key. -/
import Derived.Test.YtgfkgoiaoglhnaaProg
import Derived.WalkKit
import Derived.ProofKit
import Derived.Lib.Hide
import Derived.WalkLawsBesides
import Derived.WalkSpells
import Derived.Deep.RegionWith
import Derived.Deep.DeepCutAuto
import Derived.Deep.CutBlock
import Derived.Test.YtgfkgoiaoglhnaaJF
namespace Go.Proofs.Ytgfkgoiaoglhnaa.jr
open Go Go.RowKit
set_option linter.unusedVariables false
set_option linter.unusedSimpArgs false
set_option maxRecDepth 100000 in
set_option maxHeartbeats 8000000 in
theorem drop_key (W : World) (s : ByteArray) (hs : s.size ≤ 1000) :
    Calls Try.prog 36 #[.string s] W fun en w' => ∃ v, en = .returned v ∧ w'.ownsRow W.heap.size 5 1 v (dropL s).length (lb.vB (dropL s)) ∧ Below W.heap.size W w' := by
  obtain ⟨k, hkk⟩ : ∃ k, k = W.heap.size + 1 := ⟨_, rfl⟩
  have HKK := Lib.hid hkk
  have HS := Lib.hid hs
  clear hkk hs
  go_enter Try.func36, Try.ntmps36
  go_upto_region 1 with fail
  go_cut [3] (fun pv wx => pv = .pointer (some ⟨k, 0, none⟩) ∧ WS wx W.heap.size k ⟨[2], 0, false⟩ ∧ Below W.heap.size W wx)
  case first =>
    go_wp2_with fail
    go_meet
    have hst := ws_start W W.heap.size 2 rfl
    have hbs : Below W.heap.size W ((W.alloc (.cells #[.int .u8 2] 5)).alloc (.cells #[.slice (some ⟨W.heap.size, 0, none⟩) 1 1, .int .i64 0, .bool false] 114)) := (lb.below_alloc W _).alloc (lb.below_alloc W _).size _
    rw [HKK.out]
    exact ⟨rfl, hst, hbs⟩
  case rest =>
    obtain ⟨rfl, hws, hb0⟩ := hcut
    have HWS := Lib.hid hws
    have HB0 := Lib.hid hb0
    clear hws hb0
    go_upto_region 2 with fail
    go_cut [3] (fun pv wx => pv = .pointer (some ⟨k, 0, none⟩) ∧ WS wx W.heap.size k (wText ⟨[2], 0, false⟩ s) ∧ Below W.heap.size W wx)
    case first =>
      have HT := Lib.hid (text_ws wc W k ⟨[2], 0, false⟩ s HS.out (by show 0 ≤ 900000; omega) (by show 1 ≤ 900000; omega) HB0.out HWS.out)
      go_wp2_with (first
        | (go_at_call 55; refine HT.out.mono ?_; rintro e w2 ⟨rfl, h2, hb2, _⟩; have H2 := Lib.hid h2; have HB2 := Lib.hid hb2; clear h2 hb2)
        | fail)
      go_meet
      exact ⟨rfl, H2.out, HB2.out⟩
    case rest =>
    obtain ⟨rfl, hws, hb0⟩ := hcut
    obtain ⟨v, hk0, g0, g1, g2, gf, hown⟩ := ws_facts hws
    obtain ⟨av, cv, rfl⟩ := lb.own_shape hown
    have HOW := Lib.hid hown
    have HFB := Lib.hid hb0
    have hpl : (wText ⟨[2], 0, false⟩ s).bad = true → dropL s = [] := fun h => by unfold dropL; rw [if_pos h]
    have hpk : (wText ⟨[2], 0, false⟩ s).bad = false → dropL s = (wText ⟨[2], 0, false⟩ s).b := fun h => by unfold dropL; rw [h]; rfl
    have HPL := Lib.hid hpl
    have HPK := Lib.hid hpk
    generalize hlen : (wText ⟨[2], 0, false⟩ s).b.length = ln at *
    generalize hbad : (wText ⟨[2], 0, false⟩ s).bad = bd at *
    clear hown gf hpl hpk hws hb0
    cases bd
    · have hp := Lib.hid (HPK.out rfl)
      have HLEN := Lib.hid hlen
      clear hlen
      go_wp2_with fail
      go_ret
      exact ⟨_, rfl, by rw [hp.out, HLEN.out]; exact HOW.out, HFB.out⟩
    · have hp := Lib.hid (HPL.out rfl)
      go_wp2_with fail
      go_ret
      exact ⟨_, rfl, by rw [hp.out]; exact lb.own_nil _ _ _ _, HFB.out⟩
theorem dropL_short (s : ByteArray) (hs : s.size ≤ 1000) : (dropL s).length ≤ 8192 := by
  unfold dropL
  split
  · simp
  · rw [wText_len]; simp; omega
theorem putL_short (e : En) : (putL e).length ≤ 8192 := by
  unfold putL
  split
  · simp
  · omega
end Go.Proofs.Ytgfkgoiaoglhnaa.jr
