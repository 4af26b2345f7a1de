/- conciergeref21.Keeps and EqEntry, and what they call, at entries that were cut. -/
import Derived.Test.YtgfkgoiaoglhnaaProg
import Derived.WalkKit
import Derived.ProofKit
import Derived.Lib.Hide
import Derived.WalkLawsBesides
import Derived.WalkSpells
import Derived.Deep.RegionWith
import Derived.Deep.QuietTactic
import Derived.BigQuiet
import Derived.Deep.DeepCutAuto
import Derived.Deep.CutBlock
import Derived.Test.YtgfkgoiaoglhnaaJN
namespace Go.Proofs.Ytgfkgoiaoglhnaa.jr
open Go Go.RowKit
set_option linter.unusedVariables false
set_option linter.unusedSimpArgs false
set_option maxRecDepth 100000 in
set_option maxHeartbeats 4000000 in
theorem rtexts_calls (W : World) (ad : Option Addr) (n c : Nat) (X : List ByteArray) (hn : X.length = n) (hn5 : n ≤ 5) (hc : n ≤ c) (hX : ∀ s ∈ X, s.size ≤ 40) (hin : TextsIn W ad X) :
    Calls Try.prog 65 #[.slice ad n c] W fun e w' => e = .returned (.bool true) ∧ W = w' := by
  have HX := Lib.hid hX
  have HN := Lib.hid hn
  have HIN := Lib.hid hin
  clear hX hn hin
  go_enter Try.func65, Try.ntmps65
  go_wp2_with fail
  go_loopw [3] (fun iv wr => ∃ k : Nat, k ≤ n ∧ iv = .int .i64 (k : Int) ∧ wr = W) (fun iv _ => n - (intOf iv).toNat)
  case atStart => exact ⟨0, Nat.zero_le _, rfl, rfl⟩
  case round =>
    obtain ⟨k, hk, rfl, rfl⟩ := hrel
    by_cases hlt : k < n
    · have hkX : k < X.length := by rw [HN.out]; exact hlt
      obtain ⟨b, o, rfl, hcell⟩ := HIN.out.resolve_left (by intro h0; rw [h0] at hkX; cases hkX)
      have e1 := hcell k hkX
      have hs := HX.out _ (List.getElem_mem hkX)
      obtain ⟨s, hse⟩ : ∃ s, X[k] = s := ⟨_, rfl⟩
      rw [hse] at e1 hs
      clear hcell hse
      go_wp2_with fail
      exact ⟨⟨k + 1, by omega, by go_num, by trivial⟩, by simp [intOf]; omega⟩
    · obtain rfl : k = n := by omega
      go_wp2_with fail
      go_ret
      exact ⟨rfl, rfl⟩
set_option maxRecDepth 100000 in
set_option maxHeartbeats 8000000 in
theorem rlong_calls (W : World) (e : En) (a1 a2 a3 : Option Addr) (n1 c1 n2 c2 n3 c3 : Nat) (hs : Small e) (hat : EnAt W e a1 a2 a3 n1 c1 n2 c2 n3 c3) :
    Calls Try.prog 66 #[.agg (enCells e a1 a2 a3 n1 c1 n2 c2 n3 c3)] W fun en w' => ∃ m : Nat, m ≤ 520 ∧ en = .returned (.int .i64 (m : Int)) ∧ Below W.heap.size W w' := by
  obtain ⟨W0, hW0⟩ : ∃ W0, W0 = W.alloc (.cells (enCells e a1 a2 a3 n1 c1 n2 c2 n3 c3) 64) := ⟨_, rfl⟩
  obtain ⟨Z, hZ⟩ : ∃ Z, Z = W.heap.size := ⟨_, rfl⟩
  have hBW : Below W.heap.size W W0 := by rw [hW0]; exact lb.below_alloc _ _
  have hblk : W0.heap[Z]? = some (.cells (enCells e a1 a2 a3 n1 c1 n2 c2 n3 c3) 64 (0, 0)) := by rw [hW0]; exact blk_new _ _ _ hZ
  have HBW := Lib.hid hBW
  have HAT := Lib.hid (hat.below hBW)
  have HZ := Lib.hid hZ
  have HW0 := Lib.hid hW0
  have HS := Lib.hid hs
  have hn1 : n1 ≤ 5 := by rw [← hat.ln]; exact hs.ln
  have hn2 : n2 ≤ 5 := by rw [← hat.la]; exact hs.la
  have hn3 : n3 ≤ 3 := by rw [← hat.ld]; exact hs.ld
  have hc1 := hat.c1
  have hc2 := hat.c2
  have hc3 := hat.c3
  obtain ⟨_, _, q2, q3, _, _, _, q7⟩ := en_cells hblk
  clear hat hW0 hBW hblk hZ hs
  unfold enCells
  go_enter Try.func66, Try.ntmps66
  go_upto_region 0 with fail
  go_cut [1, 2] (fun pv rv wx => pv = .pointer (some ⟨Z, 0, none⟩) ∧ rv = .int .i64 0 ∧ wx = W0)
  case first =>
    go_wp2_with fail
    go_meet
    have hw0 := HW0.out
    unfold enCells at hw0
    rw [← hw0, HZ.out]
    exact ⟨rfl, rfl, rfl⟩
  case rest =>
  obtain ⟨rfl, rfl, rfl⟩ := hcut
  go_upto_block 0 with fail
  go_cut [3] (fun sv wx => ∃ m : Nat, m ≤ 200 ∧ sv = .int .i64 (m : Int) ∧ wx = wc)
  case first =>
    go_wp2_with fail
    go_loopw [3, 4] (fun sv iv wr => ∃ k m : Nat, k ≤ n1 ∧ m ≤ 40 * k ∧ sv = .int .i64 (m : Int) ∧ iv = .int .i64 (k : Int) ∧ wr = wc) (fun _ iv _ => n1 - (intOf iv).toNat)
    case atStart => exact ⟨0, 0, Nat.zero_le _, Nat.zero_le _, rfl, rfl, rfl⟩
    case round =>
      obtain ⟨k, m, hk, hm, rfl, rfl, rfl⟩ := hrel
      by_cases hlt : k < n1
      · have hkX : k < e.names.length := by rw [HAT.out.ln]; exact hlt
        obtain ⟨b, o, rfl, hcell⟩ := HAT.out.tn.resolve_left (by intro h0; rw [h0] at hkX; cases hkX)
        have e1 := hcell k hkX
        have hs := HS.out.names _ (List.getElem_mem hkX)
        obtain ⟨s, hse⟩ : ∃ s, e.names[k] = s := ⟨_, rfl⟩
        rw [hse] at e1 hs
        clear hcell hse
        go_wp2_with fail
        exact ⟨⟨k + 1, m + s.size, by omega, by omega, by go_num, by go_num, by trivial⟩, by simp [intOf]; omega⟩
      · obtain rfl : k = n1 := by omega
        go_wp2_with fail
        go_meet
        exact ⟨m, by omega, rfl, rfl⟩
  case rest =>
  obtain ⟨m1, hm1, rfl, rfl⟩ := hcut
  go_upto_block 2 with fail
  go_cut [3] (fun sv wx => ∃ m : Nat, m ≤ 400 ∧ sv = .int .i64 (m : Int) ∧ wx = wc)
  case first =>
    go_wp2_with fail
    go_loopw [3, 5] (fun sv iv wr => ∃ k m : Nat, k ≤ n2 ∧ m ≤ 200 + 40 * k ∧ sv = .int .i64 (m : Int) ∧ iv = .int .i64 (k : Int) ∧ wr = wc) (fun _ iv _ => n2 - (intOf iv).toNat)
    case atStart => exact ⟨0, m1, Nat.zero_le _, by omega, rfl, rfl, rfl⟩
    case round =>
      obtain ⟨k, m, hk, hm, rfl, rfl, rfl⟩ := hrel
      by_cases hlt : k < n2
      · have hkX : k < e.addrs.length := by rw [HAT.out.la]; exact hlt
        obtain ⟨b, o, rfl, hcell⟩ := HAT.out.ta.resolve_left (by intro h0; rw [h0] at hkX; cases hkX)
        have e1 := hcell k hkX
        have hs := HS.out.addrs _ (List.getElem_mem hkX)
        obtain ⟨s, hse⟩ : ∃ s, e.addrs[k] = s := ⟨_, rfl⟩
        rw [hse] at e1 hs
        clear hcell hse
        go_wp2_with fail
        exact ⟨⟨k + 1, m + s.size, by omega, by omega, by go_num, by go_num, by trivial⟩, by simp [intOf]; omega⟩
      · obtain rfl : k = n2 := by omega
        go_wp2_with fail
        go_meet
        exact ⟨m, by omega, rfl, rfl⟩
  case rest =>
  obtain ⟨m2, hm2, rfl, rfl⟩ := hcut
  go_wp2_with fail
  go_loopw [3, 6] (fun sv iv wr => ∃ k m : Nat, k ≤ n3 ∧ m ≤ 400 + 40 * k ∧ sv = .int .i64 (m : Int) ∧ iv = .int .i64 (k : Int) ∧ wr = wc) (fun _ iv _ => n3 - (intOf iv).toNat)
  case atStart => exact ⟨0, m2, Nat.zero_le _, by omega, rfl, rfl, rfl⟩
  case round =>
    obtain ⟨k, m, hk, hm, rfl, rfl, rfl⟩ := hrel
    by_cases hlt : k < n3
    · have hkX : k < e.deps.length := by rw [HAT.out.ld]; exact hlt
      obtain ⟨b, o, rfl, hcell⟩ := HAT.out.td.resolve_left (by intro h0; rw [h0] at hkX; cases hkX)
      have e1 := (hcell k hkX).1
      have hs := HS.out.deps _ (List.getElem_mem hkX)
      obtain ⟨s, hse⟩ : ∃ s, (e.deps[k]).1 = s := ⟨_, rfl⟩
      rw [hse] at e1 hs
      clear hcell hse
      go_wp2_with fail
      exact ⟨⟨k + 1, m + s.size, by omega, by omega, by go_num, by go_num, by trivial⟩, by simp [intOf]; omega⟩
    · obtain rfl : k = n3 := by omega
      go_wp2_with fail
      go_ret
      exact ⟨m, by omega, rfl, HBW.out⟩
set_option maxRecDepth 100000 in
set_option maxHeartbeats 8000000 in
theorem keeps_calls (W : World) (e : En) (a1 a2 a3 : Option Addr) (n1 c1 n2 c2 n3 c3 : Nat) (hs : Small e) (hat : EnAt W e a1 a2 a3 n1 c1 n2 c2 n3 c3) (r : Bool) (hr : r = true ↔ NumsOk e) :
    Calls Try.prog 37 #[.agg (enCells e a1 a2 a3 n1 c1 n2 c2 n3 c3)] W fun en w' => en = .returned (.bool r) ∧ Below W.heap.size W w' := by
  obtain ⟨W0, hW0⟩ : ∃ W0, W0 = W.alloc (.cells (enCells e a1 a2 a3 n1 c1 n2 c2 n3 c3) 64) := ⟨_, rfl⟩
  obtain ⟨Z, hZ⟩ : ∃ Z, Z = W.heap.size := ⟨_, rfl⟩
  have hBW : Below W.heap.size W W0 := by rw [hW0]; exact lb.below_alloc _ _
  have hblk : W0.heap[Z]? = some (.cells (enCells e a1 a2 a3 n1 c1 n2 c2 n3 c3) 64 (0, 0)) := by rw [hW0]; exact blk_new _ _ _ hZ
  have HBW := Lib.hid hBW
  have HAT := Lib.hid (hat.below hBW)
  have HZ := Lib.hid hZ
  have HW0 := Lib.hid hW0
  have HS := Lib.hid hs
  have HR := Lib.hid hr
  have hn1 : n1 ≤ 5 := by rw [← hat.ln]; exact hs.ln
  have hn2 : n2 ≤ 5 := by rw [← hat.la]; exact hs.la
  have hn3 : n3 ≤ 3 := by rw [← hat.ld]; exact hs.ld
  have hc1 := hat.c1
  have hc2 := hat.c2
  have hc3 := hat.c3
  have hkey := hs.key
  obtain ⟨q0, q1, q2, q3, q4, q5, q6, q7⟩ := en_cells hblk
  clear hat hW0 hBW hblk hZ hs hr
  unfold enCells
  go_enter Try.func37, Try.ntmps37
  go_upto_region 0 with fail
  go_cut [1, 2] (fun pv rv wx => pv = .pointer (some ⟨Z, 0, none⟩) ∧ rv = .bool false ∧ wx = W0)
  case first =>
    go_wp2_with fail
    go_meet
    have hw0 := HW0.out
    unfold enCells at hw0
    rw [← hw0, HZ.out]
    exact ⟨rfl, rfl, rfl⟩
  case rest =>
  obtain ⟨rfl, rfl, rfl⟩ := hcut
  have HT1 := Lib.hid (rtexts_calls wc a1 n1 c1 e.names HAT.out.ln hn1 hc1 HS.out.names HAT.out.tn)
  have HT2 := Lib.hid (rtexts_calls wc a2 n2 c2 e.addrs HAT.out.la hn2 hc2 HS.out.addrs HAT.out.ta)
  by_cases hnum : (0 ≤ e.code ∧ e.code ≤ 65535) ∧ (0 ≤ e.port ∧ e.port ≤ 65535) ∧ 0 ≤ e.life ∧ 0 ≤ e.exp
  · obtain ⟨⟨x1, x2⟩, ⟨x3, x4⟩, x5, x6⟩ := hnum
    go_wp2_with (first
      | (go_at_call 65; (with_reducible refine HT1.out.mono ?_); rintro en w2 ⟨rfl, rfl⟩)
      | (go_at_call 65; refine HT2.out.mono ?_; rintro en w2 ⟨rfl, rfl⟩)
      | fail)
    go_loopw [3] (fun iv wr => ∃ k : Nat, k ≤ n3 ∧ iv = .int .i64 (k : Int) ∧ wr = wc ∧ ∀ j (hj : j < e.deps.length), j < k → 0 ≤ (e.deps[j]).2) (fun iv _ => n3 - (intOf iv).toNat)
    case atStart => exact ⟨0, Nat.zero_le _, rfl, rfl, fun j hj h => absurd h (Nat.not_lt_zero _)⟩
    case round =>
      obtain ⟨k, hk, rfl, rfl, hall⟩ := hrel
      have HALL := Lib.hid hall
      clear hall
      by_cases hlt : k < n3
      · have hkX : k < e.deps.length := by rw [HAT.out.ld]; exact hlt
        obtain ⟨b, o, rfl, hcell⟩ := HAT.out.td.resolve_left (by intro h0; rw [h0] at hkX; cases hkX)
        obtain ⟨e1, e2⟩ := hcell k hkX
        have hs := HS.out.deps _ (List.getElem_mem hkX)
        obtain ⟨⟨s, z⟩, hse⟩ : ∃ d, e.deps[k] = d := ⟨_, rfl⟩
        have hmem : (s, z) ∈ e.deps := by rw [← hse]; exact List.getElem_mem hkX
        have HSE := Lib.hid hse
        have HMEM := Lib.hid hmem
        rw [hse] at e1 e2 hs
        simp only at e1 e2 hs
        clear hcell hse hmem
        rcases (show z < 0 ∨ 0 ≤ z by omega) with hz | hz
        · have hrf : r = false := by
            cases r
            · rfl
            · have := (HR.out.1 rfl).2.2.2.2 _ HMEM.out
              simp only at this
              omega
          subst hrf
          go_wp2_with fail
          go_ret
          exact ⟨rfl, HBW.out⟩
        · go_wp2_with fail
          refine ⟨⟨k + 1, by omega, by go_num, by trivial, ?_⟩, by simp [intOf]; omega⟩
          intro j hj hjk
          rcases (show j < k ∨ j = k by omega) with h | rfl
          · exact HALL.out j hj h
          · rw [HSE.out]; exact hz
      · obtain rfl : k = n3 := by omega
        have hrt : r = true := HR.out.2 ⟨⟨x1, x2⟩, ⟨x3, x4⟩, x5, x6, fun d hd => by
          obtain ⟨j, hj, rfl⟩ := List.getElem_of_mem hd
          exact HALL.out j hj (by rw [← HAT.out.ld]; exact hj)⟩
        subst hrt
        have HL := Lib.hid (rlong_calls wr e a1 a2 a3 n1 c1 n2 c2 k c3 HS.out HAT.out)
        go_wp2_with (first
          | (go_at_call 66; refine HL.out.mono ?_; rintro en w2 ⟨m, hm, rfl, hb2⟩; have hd : decide ((m : Int) ≤ 6000) = true := decide_eq_true (by omega); have HB2 := Lib.hid (lb.below_then HBW.out hb2); clear hb2)
          | fail)
        go_ret
        exact ⟨rfl, HB2.out⟩
  · have hrf : r = false := by
      cases r
      · rfl
      · have := HR.out.1 rfl
        exact absurd ⟨this.1, this.2.1, this.2.2.1, this.2.2.2.1⟩ hnum
    subst hrf
    have hcases : e.code < 0 ∨ (0 ≤ e.code ∧ 65535 < e.code) ∨ (0 ≤ e.code ∧ e.code ≤ 65535 ∧ e.port < 0) ∨ (0 ≤ e.code ∧ e.code ≤ 65535 ∧ 0 ≤ e.port ∧ 65535 < e.port) ∨ (0 ≤ e.code ∧ e.code ≤ 65535 ∧ 0 ≤ e.port ∧ e.port ≤ 65535 ∧ e.life < 0) ∨ (0 ≤ e.code ∧ e.code ≤ 65535 ∧ 0 ≤ e.port ∧ e.port ≤ 65535 ∧ 0 ≤ e.life ∧ e.exp < 0) := by omega
    clear hnum
    rcases hcases with h | ⟨h1, h2⟩ | ⟨h1, h2, h3⟩ | ⟨h1, h2, h3, h4⟩ | ⟨h1, h2, h3, h4, h5⟩ | ⟨h1, h2, h3, h4, h5, h6⟩
    all_goals
      go_wp2_with fail
      go_ret
      exact ⟨rfl, HBW.out⟩
/-! The same entries. -/
set_option maxRecDepth 100000 in
set_option maxHeartbeats 4000000 in
theorem req_texts (ad1 ad2 : Option Addr) (c1 c2 n : Nat) (X : List ByteArray) (W : World) (hl : X.length = n) (hn : n ≤ 9223372036854775807) (h1 : TextsIn W ad1 X) (h2 : TextsIn W ad2 X) :
    Calls Try.prog 71 #[.slice ad1 n c1, .slice ad2 n c2] W fun e w' => e = .returned (.bool true) ∧ ∃ q, w' = W.drewN q := by
  have HC1 := Lib.hid h1
  have HC2 := Lib.hid h2
  have HL := Lib.hid hl
  clear h1 h2 hl
  go_enter Try.func71, Try.ntmps71
  go_wp2
  go_loopw [5] (fun iv wr => ∃ k : Nat, k ≤ n ∧ iv = .int .i64 k ∧ ∃ q, wr = W.drewN q) (fun iv _ => n - (intOf iv).toNat)
  case atStart => exact ⟨0, Nat.zero_le _, rfl, 0, rfl⟩
  case round =>
    obtain ⟨k, hk, rfl, q, rfl⟩ := hrel
    by_cases hlt : k < n
    · have hkX : k < X.length := by rw [HL.out]; exact hlt
      obtain ⟨b1, o1, rfl, hc1⟩ := HC1.out.resolve_left (by intro h0; rw [h0] at hkX; cases hkX)
      obtain ⟨b2, o2, rfl, hc2⟩ := HC2.out.resolve_left (by intro h0; rw [h0] at hkX; cases hkX)
      have e1 := hc1 k hkX
      have e2 := hc2 k hkX
      obtain ⟨s, hs⟩ : ∃ s, X[k] = s := ⟨_, rfl⟩
      rw [hs] at e1 e2
      clear hs hc1 hc2
      go_wp2
      go_quiet (fail)
      go_wp2
      go_roundw
      case rel => exact ⟨k + 1, by omega, by go_num, _, rfl⟩
      case measure => simp [intOf]; omega
    · obtain rfl : k = n := by omega
      go_wp2
      go_ret
      exact ⟨rfl, q, rfl⟩
set_option maxRecDepth 100000 in
set_option maxHeartbeats 4000000 in
theorem req_deps (ad1 ad2 : Option Addr) (c1 c2 n : Nat) (X : List (ByteArray × Int)) (W : World) (hl : X.length = n) (hn : n ≤ 1000000) (h1 : DepsIn W ad1 X) (h2 : DepsIn W ad2 X) :
    Calls Try.prog 68 #[.slice ad1 n c1, .slice ad2 n c2] W fun e w' => e = .returned (.bool true) ∧ ∃ q, w' = W.drewN q := by
  have HC1 := Lib.hid h1
  have HC2 := Lib.hid h2
  have HL := Lib.hid hl
  clear h1 h2 hl
  go_enter Try.func68, Try.ntmps68
  go_wp2
  go_loopw [5] (fun iv wr => ∃ k : Nat, k ≤ n ∧ iv = .int .i64 k ∧ ∃ q, wr = W.drewN q) (fun iv _ => n - (intOf iv).toNat)
  case atStart => exact ⟨0, Nat.zero_le _, rfl, 0, rfl⟩
  case round =>
    obtain ⟨k, hk, rfl, q, rfl⟩ := hrel
    by_cases hlt : k < n
    · have hkX : k < X.length := by rw [HL.out]; exact hlt
      obtain ⟨b1, o1, rfl, hc1⟩ := HC1.out.resolve_left (by intro h0; rw [h0] at hkX; cases hkX)
      obtain ⟨b2, o2, rfl, hc2⟩ := HC2.out.resolve_left (by intro h0; rw [h0] at hkX; cases hkX)
      obtain ⟨e1, f1⟩ := hc1 k hkX
      obtain ⟨e2, f2⟩ := hc2 k hkX
      obtain ⟨⟨s, z⟩, hs⟩ : ∃ s, X[k] = s := ⟨_, rfl⟩
      rw [hs] at e1 e2 f1 f2
      simp only at e1 e2 f1 f2
      clear hs hc1 hc2
      go_wp2
      go_quiet (fail)
      go_wp2
      go_roundw
      case rel => exact ⟨k + 1, by omega, by go_num, _, rfl⟩
      case measure => simp [intOf]; omega
    · obtain rfl : k = n := by omega
      go_wp2
      go_ret
      exact ⟨rfl, q, rfl⟩
set_option maxRecDepth 100000 in
set_option maxHeartbeats 4000000 in
theorem req_answer (W : World) (X Y : List ByteArray) (p l : Int) (a1 a2 b1 b2 : Option Addr) (n1 c1 d1 n2 c2 d2 : Nat) (hX : X.length = n1) (hY : Y.length = n2) (m1 : n1 ≤ 1000) (m2 : n2 ≤ 1000) (x1 : TextsIn W a1 X) (x2 : TextsIn W b1 X) (y1 : TextsIn W a2 Y) (y2 : TextsIn W b2 Y) :
    Calls Try.prog 67 #[.agg #[.slice a1 n1 c1, .slice a2 n2 c2, .int .i64 p, .int .i64 l], .agg #[.slice b1 n1 d1, .slice b2 n2 d2, .int .i64 p, .int .i64 l]] W fun e w' => e = .returned (.bool true) ∧ Below W.heap.size W w' := by
  have HX := Lib.hid hX
  have HY := Lib.hid hY
  have X1 := Lib.hid x1
  have X2 := Lib.hid x2
  have Y1 := Lib.hid y1
  have Y2 := Lib.hid y2
  have HB : ∀ o o', Hid (Below W.heap.size W ((W.alloc o).alloc o')) := fun o o' => Lib.hid ((lb.below_alloc W o).alloc (lb.below_alloc W o).size o')
  clear hX hY x1 x2 y1 y2
  go_enter Try.func67, Try.ntmps67
  go_wp2_with (first
    | (go_at_call 71; (with_reducible refine (req_texts a1 b1 c1 d1 n1 X _ HX.out (by omega) (X1.out.below (HB _ _).out) (X2.out.below (HB _ _).out)).mono ?_); rintro en w2 ⟨rfl, q, rfl⟩)
    | (go_at_call 71; (refine (req_texts a2 b2 c2 d2 n2 Y _ HY.out (by omega) (Y1.out.below (lb.drewN_of (HB _ _).out _)) (Y2.out.below (lb.drewN_of (HB _ _).out _))).mono ?_); rintro en w2 ⟨rfl, q2, rfl⟩)
    | fail)
  go_ret
  exact ⟨rfl, lb.drewN_of (HB _ _).out _⟩
set_option maxRecDepth 100000 in
set_option maxHeartbeats 4000000 in
theorem req_entry (W : World) (e : En) (a1 a2 a3 b1 b2 b3 : Option Addr) (n1 c1 d1 n2 c2 d2 n3 c3 d3 : Nat) (hk : Small e) (x : EnAt W e a1 a2 a3 n1 c1 n2 c2 n3 c3) (y : EnAt W e b1 b2 b3 n1 d1 n2 d2 n3 d3) :
    Calls Try.prog 38 #[.agg (enCells e a1 a2 a3 n1 c1 n2 c2 n3 c3), .agg (enCells e b1 b2 b3 n1 d1 n2 d2 n3 d3)] W fun en w' => en = .returned (.bool true) ∧ Below W.heap.size W w' := by
  have HX := Lib.hid x
  have HY := Lib.hid y
  have hn1 : n1 ≤ 5 := by rw [← x.ln]; exact hk.ln
  have hn2 : n2 ≤ 5 := by rw [← x.la]; exact hk.la
  have hn3 : n3 ≤ 3 := by rw [← x.ld]; exact hk.ld
  have HB : ∀ o o', Hid (Below W.heap.size W ((W.alloc o).alloc o')) := fun o o' => Lib.hid ((lb.below_alloc W o).alloc (lb.below_alloc W o).size o')
  clear x y hk
  unfold enCells
  go_enter Try.func38, Try.ntmps38
  go_wp2_with (first
    | (go_at_call 67; refine (req_answer _ e.names e.addrs e.port e.life a1 a2 b1 b2 n1 c1 d1 n2 c2 d2 HX.out.ln HX.out.la (by omega) (by omega) (HX.out.tn.below (HB _ _).out) (HY.out.tn.below (HB _ _).out) (HX.out.ta.below (HB _ _).out) (HY.out.ta.below (HB _ _).out)).mono ?_; rintro en w2 ⟨rfl, hb2⟩; have z1 := new_cell2 hb2 6 (.int .i64 e.exp) rfl; have z2 := new_cell2 hb2 7 (.slice a3 n3 c3) rfl; have z3 := new_cell3 hb2 6 (.int .i64 e.exp) rfl; have z4 := new_cell3 hb2 7 (.slice b3 n3 d3) rfl; have HB2 := Lib.hid (lb.below_then (HB _ _).out hb2); clear hb2)
    | (go_at_call 68; refine (req_deps a3 b3 c3 d3 n3 e.deps w2 HX.out.ld (by omega) (HX.out.td.below HB2.out) (HY.out.td.below HB2.out)).mono ?_; rintro en w3 ⟨rfl, q, rfl⟩)
    | fail)
  go_ret
  exact ⟨rfl, lb.drewN_of HB2.out _⟩
end Go.Proofs.Ytgfkgoiaoglhnaa.jr
