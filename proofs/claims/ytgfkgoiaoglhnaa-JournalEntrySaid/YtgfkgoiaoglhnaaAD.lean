/- Action: the cut of steps, and what the reference says of them (May). -/
import Derived.Test.YtgfkgoiaoglhnaaProg
import Derived.WalkKit
import Derived.ProofKit
import Derived.Lib.Hide
import Derived.WalkLawsBesides
import Derived.WalkSpells
import Derived.Deep.RegionWith
import Derived.Test.YtgfkgoiaoglhnaaAB
namespace Go.Proofs.Ytgfkgoiaoglhnaa.ac
open Go Go.RowKit
set_option linter.unusedVariables false
set_option linter.unusedSimpArgs false
/-- Steps that came in. -/
def StepsIn (W : World) (ad : Option Addr) (S : List ST) : Prop := S = [] ∨ ∃ b o, ad = some ⟨b, o, none⟩ ∧ ∀ k (h : k < S.length) j, j < 5 → W.cell? ⟨b, o + k * 5 + j, none⟩ = (stCells S[k])[j]?
def cutT (x : ST) : ST := { x with src := cutS x.src 30 }
def cutL (S : List ST) : List ST := (S.take 10).map cutT
theorem cutL_len (S : List ST) : (cutL S).length = min 10 S.length := by simp [cutL]
theorem cutL_snoc {S : List ST} {k : Nat} (hk : k < S.length) : ((S.take (k + 1)).map cutT).flatMap stCells = ((S.take k).map cutT).flatMap stCells ++ stCells (cutT S[k]) := by
  rw [List.take_succ_eq_append_getElem hk, List.map_append, List.flatMap_append]
  simp only [List.map_cons, List.map_nil, List.flatMap_cons, List.flatMap_nil, List.append_nil]
theorem flat_get5 : ∀ (S : List ST) (k : Nat) (hk : k < S.length) (j : Nat), j < 5 → (S.flatMap stCells)[k * 5 + j]? = (stCells S[k])[j]?
  | x :: S, 0, _, j, hj => by
    simp only [List.flatMap_cons, Nat.zero_mul, Nat.zero_add]
    rw [List.getElem?_append_left (by simp [stCells]; omega)]
    rfl
  | x :: S, k + 1, hk, j, hj => by
    have ih := flat_get5 S k (by simpa using hk) j hj
    simp only [List.flatMap_cons]
    rw [List.getElem?_append_right (by simp [stCells]; omega)]
    have e : (k + 1) * 5 + j - (stCells x).length = k * 5 + j := by simp [stCells]; omega
    rw [e, ih]
    rfl
theorem steps_at {w : World} {B g n c : Nat} {S : List ST} (h : w.ownsRow B 37 5 (.slice (some ⟨g, 0, none⟩) n c) n (S.flatMap stCells)) (hn : S.length = n) (k : Nat) (hk : k < n) (j : Nat) (hj : j < 5) : w.cell? ⟨g, k * 5 + j, none⟩ = (stCells (S[k]'(by omega)))[j]? := by
  rw [h.cellAt (k * 5 + j) (by omega), flat_get5 S k (by omega) j hj]
theorem steps_addr {w : World} {B n : Nat} {v : Value} {xs : List Value} (h : w.ownsRow B 37 5 v n xs) (hn : 0 < n) : ∃ g c, v = .slice (some ⟨g, 0, none⟩) n c := by
  rcases h.2 with ⟨rfl, h0⟩ | ⟨g, cap, cur, rfl, _⟩
  · omega
  · exact ⟨g, cap, rfl⟩
theorem cell_is {w : World} {a : Addr} {o : Option Value} {v : Value} (h : w.cell? a = o) (hv : o = some v) : w.cell? a = some v := h.trans hv
theorem steps5 {w : World} {B g n c k : Nat} {S : List ST} {x : ST} (h : w.ownsRow B 37 5 (.slice (some ⟨g, 0, none⟩) n c) n (S.flatMap stCells)) (hn : S.length = n) (hk : k < S.length) (hx : S[k] = x) :
    w.cell? ⟨g, k * 5, none⟩ = some (.string x.src) ∧ w.cell? ⟨g, k * 5 + 1, none⟩ = some (.int .i64 x.d0) ∧ w.cell? ⟨g, k * 5 + 2, none⟩ = some (.int .i64 x.d1) ∧ w.cell? ⟨g, k * 5 + 3, none⟩ = some (.int .i64 x.d2) ∧ w.cell? ⟨g, k * 5 + 4, none⟩ = some (.int .i64 x.d3) := by
  subst hx
  exact ⟨steps_at h hn k (by omega) 0 (by omega), steps_at h hn k (by omega) 1 (by omega), steps_at h hn k (by omega) 2 (by omega), steps_at h hn k (by omega) 3 (by omega), steps_at h hn k (by omega) 4 (by omega)⟩
set_option maxRecDepth 100000 in
theorem info_step : (Try.prog.info? 37).map (fun i => (i.zero, i.size, i.bytes)) = some (some (.agg #[.string ⟨#[]⟩, .int .i64 0, .int .i64 0, .int .i64 0, .int .i64 0]), 5, 48) := by kernel_rfl
set_option maxRecDepth 100000 in
set_option maxHeartbeats 4000000 in
theorem lawcut_calls (ad : Option Addr) (n c : Nat) (S : List ST) (W : World) (hn : S.length = n) (hm : n ≤ 9223372036854775807) (hs : ∀ x ∈ S, x.src.size ≤ 9223372036854775807) (h : StepsIn W ad S) :
    Calls Try.prog 11 #[.slice ad n c] W fun e w' => ∃ v, e = .returned v ∧ w'.ownsRow W.heap.size 37 5 v (cutL S).length ((cutL S).flatMap stCells) ∧ Below W.heap.size W w' := by
  obtain ⟨i0, hi, hz0, hz1, hz2⟩ := info_parts info_step
  have HN := Lib.hid hn
  have HS := Lib.hid hs
  have HI := Lib.hid h
  clear hn hs h
  go_enter Try.func11, Try.ntmps11
  go_wp2
  go_loopw [3, 4] (fun lv iv wr => ∃ k : Nat, k ≤ n ∧ k ≤ 10 ∧ iv = .int .i64 k ∧ wr.ownsRow W.heap.size 37 5 lv k (((S.take k).map cutT).flatMap stCells) ∧ Below W.heap.size W wr) (fun _ iv _ => 11 - (intOf iv).toNat)
  case atStart => exact ⟨0, by omega, by omega, rfl, by simpa using World.ownsRow_nil _ _ _ _, Below.refl _ _⟩
  case round =>
    obtain ⟨k, hk, hk10, rfl, hown, hb⟩ := hrel
    obtain ⟨al, cl, rfl⟩ := lb.own_shape hown
    have HB := Lib.hid hb
    have HO := Lib.hid hown
    clear hb hown
    rcases (show (k < n ∧ k < 10) ∨ (k = n ∨ k = 10) by omega) with ⟨hlt, hlt10⟩ | hx
    · have hkS : k < S.length := by rw [HN.out]; exact hlt
      obtain ⟨b, o, rfl, hc⟩ := HI.out.resolve_left (by intro h0; rw [h0] at hkS; cases hkS)
      have hsn := cutL_snoc hkS
      have hss := HS.out _ (List.getElem_mem hkS)
      have e := fun j hj v => cell_is (v := v) ((HB.out.cell (p := ⟨b, o + k * 5 + j, none⟩) (World.block_lt_of_cell? W ⟨b, o + k * 5, none⟩ (cell_is (hc k hkS 0 (by omega)) rfl))).trans (hc k hkS j hj))
      have e0 := e 0 (by omega) _ rfl
      have e1 := e 1 (by omega) _ rfl
      have e2 := e 2 (by omega) _ rfl
      have e3 := e 3 (by omega) _ rfl
      have e4 := e 4 (by omega) _ rfl
      have hbl : b < wr.heap.size := World.block_lt_of_cell? wr _ e0
      obtain ⟨⟨s, a0, a1, a2, a3⟩, hx⟩ : ∃ x, S[k] = x := ⟨_, rfl⟩
      simp only [hx, Nat.add_zero] at e0 e1 e2 e3 e4
      rw [hx] at hss hsn
      have HSN := Lib.hid hsn
      have hct := fun w => cut_calls s 30 w (by decide) hss
      have HCT := Lib.hid hct
      clear hsn hc e hx hct hss
      go_wp2_with (first
        | (go_at_call 34; refine (HCT.out _).mono ?_; rintro e w2 ⟨rfl, hw2⟩; obtain rfl := hw2)
        | (at_builtin; refine lb.app1n (wr.heap.size + 1) rfl (.tmp 24) (.tmp 26) 22 rfl 37 i0 (.agg #[.string ⟨#[]⟩, .int .i64 0, .int .i64 0, .int .i64 0, .int .i64 0]) 5 48 Try.underlying22 hi hz0 hz1 hz2 rfl (by decide) W (wr.alloc (.cells #[.string (cutS s 30), .int .i64 a0, .int .i64 a1, .int .i64 a2, .int .i64 a3] 37)) (lb.size_alloc _ _) (.slice al k cl) k (((S.take k).map cutT).flatMap stCells) [.string (cutS s 30), .int .i64 a0, .int .i64 a1, .int .i64 a2, .int .i64 a3] rfl (HO.out.alloc _) (HB.out.alloc HB.out.size _) rfl rfl (by intro u hu; simp at hu; rcases hu with rfl | rfl | rfl | rfl | rfl <;> rfl) (by omega) (by omega) ?_; intro v1 w1 ho1 hb1 hk1; have HO1 := Lib.hid ho1; have HB1 := Lib.hid hb1; clear ho1 hb1 hk1)
        | go_in)
      refine ⟨⟨k + 1, by omega, by omega, by go_num, ?_, HB1.out⟩, by simp [intOf]; omega⟩
      rw [HSN.out]
      exact HO1.out
    · have hR : cutL S = (S.take k).map cutT := by
        unfold cutL
        rcases hx with rfl | rfl
        · rw [List.take_of_length_le (by rw [HN.out]; omega), List.take_of_length_le (by rw [HN.out]; omega)]
        · rfl
      have hL : (cutL S).length = k := by
        rw [hR]
        have := HN.out
        simp
        omega
      have HR := Lib.hid hR
      have HL := Lib.hid hL
      clear hR hL
      have fin : ∃ v, Ending.returned (.slice al k cl) = Ending.returned v ∧ wr.ownsRow W.heap.size 37 5 v (cutL S).length ((cutL S).flatMap stCells) ∧ Below W.heap.size W wr := ⟨_, rfl, by rw [HL.out, HR.out]; exact HO.out, HB.out⟩
      have FIN := Lib.hid fin
      clear fin
      rcases hx with rfl | rfl
      · go_wp2
        go_ret
        exact FIN.out
      · by_cases hx2 : 10 < n
        · go_wp2
          go_ret
          exact FIN.out
        · go_wp2
          go_ret
          exact FIN.out
/-- May steps make a table? -/
def okStep (x : ST) : Bool := !x.src.toList.isEmpty && (okA 0 x.d0 && okA 1 x.d1 && okA 2 x.d2 && okA 3 x.d3)
def mayB (S : List ST) : Bool := decide (1 ≤ S.length ∧ S.length ≤ 8) && S.all okStep
theorem okStep_right (x : ST) : okStep x = rightB x := by
  unfold okStep rightB
  cases okA 0 x.d0 <;> cases okA 1 x.d1 <;> cases okA 2 x.d2 <;> cases okA 3 x.d3 <;> cases x.src.toList.isEmpty <;> rfl
theorem all_drop (S : List ST) (p : ST → Bool) (k : Nat) (h : k < S.length) : (S.drop k).all p = (p S[k] && (S.drop (k + 1)).all p) := by
  rw [List.drop_eq_getElem_cons h, List.all_cons]
theorem okStep_no {x : ST} (k : Nat) (hk : k < 4) (h : okA k (x.act k) = false) : okStep x = false := by rw [okStep_right]; exact right_no k hk h
set_option maxRecDepth 100000 in
set_option maxHeartbeats 4000000 in
theorem may_calls (W : World) (B n : Nat) (v : Value) (S : List ST) (hn : S.length = n) (h : W.ownsRow B 37 5 v n (S.flatMap stCells)) :
    Calls Try.prog 13 #[v] W fun e w' => e = .returned (.bool (mayB S)) ∧ w' = W := by
  have hm := lb.own_max h
  obtain ⟨ad, c, rfl⟩ := lb.own_shape h
  have HN := Lib.hid hn
  have HO := Lib.hid h
  clear hn h
  rcases (show n = 0 ∨ 8 < n ∨ (1 ≤ n ∧ n ≤ 8) by omega) with h0 | h0 | ⟨h0, h8⟩
  · have hr : mayB S = false := by simp [mayB, HN.out]; omega
    have HR := Lib.hid hr
    clear hr
    go_enter Try.func13, Try.ntmps13
    go_wp2
    go_ret
    exact ⟨by rw [HR.out]; rfl, rfl⟩
  · have hr : mayB S = false := by simp [mayB, HN.out]; omega
    have HR := Lib.hid hr
    clear hr
    go_enter Try.func13, Try.ntmps13
    go_wp2
    go_ret
    exact ⟨by rw [HR.out]; rfl, rfl⟩
  · have hr : mayB S = S.all okStep := by simp [mayB, HN.out]; omega
    have HR := Lib.hid hr
    clear hr
    obtain ⟨g, c', hg⟩ := steps_addr HO.out h0
    cases hg
    go_enter Try.func13, Try.ntmps13
    go_wp2
    go_loop [3] (fun iv => ∃ k : Nat, k ≤ n ∧ iv = .int .i64 k ∧ S.all okStep = (S.drop k).all okStep) (fun iv => n - (intOf iv).toNat)
    case atStart => exact ⟨0, by omega, rfl, rfl⟩
    case round =>
      obtain ⟨k, hk, rfl, hd⟩ := hrel
      have HD := Lib.hid hd
      clear hd
      rcases (show k < n ∨ k = n by omega) with hlt | rfl
      · have hkS : k < S.length := by rw [HN.out]; exact hlt
        have e := fun j hj v => cell_is (v := v) (steps_at HO.out HN.out k hlt j hj)
        have e0 := e 0 (by omega) _ rfl
        have e1 := e 1 (by omega) _ rfl
        have e2 := e 2 (by omega) _ rfl
        have e3 := e 3 (by omega) _ rfl
        have e4 := e 4 (by omega) _ rfl
        have hal := all_drop S okStep k hkS
        obtain ⟨x, hx⟩ : ∃ x, S[k] = x := ⟨_, rfl⟩
        simp only [hx, Nat.add_zero] at e0 e1 e2 e3 e4 hal
        have HAL := Lib.hid hal
        clear hal e hx
        cases he : x.src.toList.isEmpty
        · go_wp2
          go_loop [4] (fun i => ∃ q : Nat, q ≤ 4 ∧ i = .int .i64 q ∧ ∀ j, j < q → okA j (x.act j) = true) (fun i => 4 - (intOf i).toNat)
          case atStart => exact ⟨0, by omega, rfl, fun j hj => absurd hj (Nat.not_lt_zero _)⟩
          case round =>
            obtain ⟨q, hq, rfl, hj⟩ := hrel
            have HJ := Lib.hid hj
            clear hj
            have HBAD : Hid (∀ k, k < 4 → okA k (x.act k) = false → S.all okStep = false) := Lib.hid (fun k hk4 hb => by rw [HD.out, HAL.out, okStep_no k hk4 hb]; rfl)
            rcases (show q = 0 ∨ q = 1 ∨ q = 2 ∨ q = 3 ∨ q = 4 by omega) with rfl | rfl | rfl | rfl | rfl
            · rcases (show x.d0 < 1 ∨ 3 < x.d0 ∨ (3 ≤ x.d0 ∧ x.d0 ≤ 3) ∨ (1 ≤ x.d0 ∧ x.d0 < 3) by omega) with h | h | ⟨h, h2⟩ | ⟨h, h'⟩
              · have hr := Lib.hid (HBAD.out 0 (by omega) (okA_low h))
                go_wp2
                all_goals (go_ret; exact ⟨by rw [HR.out, hr.out]; rfl, rfl⟩)
              · have hr := Lib.hid (HBAD.out 0 (by omega) (okA_high h))
                go_wp2
                all_goals (go_ret; exact ⟨by rw [HR.out, hr.out]; rfl, rfl⟩)
              · have HU := Lib.hid (ok_upto HJ.out (by show okA 0 x.d0 = true; have := (show x.d0 = 3 by omega); simp [okA, this]))
                have g3 : (x.d0 == 3) = true := by simp; omega
                go_wp2
                all_goals (go_round; (case rel => exact ⟨1, by omega, by go_num, HU.out⟩); (case measure => simp [intOf]))
              · have HU := Lib.hid (ok_upto HJ.out (by show okA 0 x.d0 = true; simp [okA]; omega))
                have g3 : (x.d0 == 3) = false := by simp; omega
                go_wp2
                all_goals (go_round; (case rel => exact ⟨1, by omega, by go_num, HU.out⟩); (case measure => simp [intOf]))
            · rcases (show x.d1 < 1 ∨ 3 < x.d1 ∨ (3 ≤ x.d1 ∧ x.d1 ≤ 3) ∨ (1 ≤ x.d1 ∧ x.d1 < 3) by omega) with h | h | ⟨h, h2⟩ | ⟨h, h'⟩
              · have hr := Lib.hid (HBAD.out 1 (by omega) (okA_low h))
                go_wp2
                all_goals (go_ret; exact ⟨by rw [HR.out, hr.out]; rfl, rfl⟩)
              · have hr := Lib.hid (HBAD.out 1 (by omega) (okA_high h))
                go_wp2
                all_goals (go_ret; exact ⟨by rw [HR.out, hr.out]; rfl, rfl⟩)
              · have hr := Lib.hid (HBAD.out 1 (by omega) (by show okA 1 x.d1 = false; have := (show x.d1 = 3 by omega); simp [okA, this]))
                have g3 : (x.d1 == 3) = true := by simp; omega
                go_wp2
                all_goals (go_ret; exact ⟨by rw [HR.out, hr.out]; rfl, rfl⟩)
              · have HU := Lib.hid (ok_upto HJ.out (by show okA 1 x.d1 = true; simp [okA]; omega))
                have g3 : (x.d1 == 3) = false := by simp; omega
                go_wp2
                all_goals (go_round; (case rel => exact ⟨2, by omega, by go_num, HU.out⟩); (case measure => simp [intOf]))
            · rcases (show x.d2 < 1 ∨ 3 < x.d2 ∨ (3 ≤ x.d2 ∧ x.d2 ≤ 3) ∨ (1 ≤ x.d2 ∧ x.d2 < 3) by omega) with h | h | ⟨h, h2⟩ | ⟨h, h'⟩
              · have hr := Lib.hid (HBAD.out 2 (by omega) (okA_low h))
                go_wp2
                all_goals (go_ret; exact ⟨by rw [HR.out, hr.out]; rfl, rfl⟩)
              · have hr := Lib.hid (HBAD.out 2 (by omega) (okA_high h))
                go_wp2
                all_goals (go_ret; exact ⟨by rw [HR.out, hr.out]; rfl, rfl⟩)
              · have hr := Lib.hid (HBAD.out 2 (by omega) (by show okA 2 x.d2 = false; have := (show x.d2 = 3 by omega); simp [okA, this]))
                have g3 : (x.d2 == 3) = true := by simp; omega
                go_wp2
                all_goals (go_ret; exact ⟨by rw [HR.out, hr.out]; rfl, rfl⟩)
              · have HU := Lib.hid (ok_upto HJ.out (by show okA 2 x.d2 = true; simp [okA]; omega))
                have g3 : (x.d2 == 3) = false := by simp; omega
                go_wp2
                all_goals (go_round; (case rel => exact ⟨3, by omega, by go_num, HU.out⟩); (case measure => simp [intOf]))
            · rcases (show x.d3 < 1 ∨ 3 < x.d3 ∨ (3 ≤ x.d3 ∧ x.d3 ≤ 3) ∨ (1 ≤ x.d3 ∧ x.d3 < 3) by omega) with h | h | ⟨h, h2⟩ | ⟨h, h'⟩
              · have hr := Lib.hid (HBAD.out 3 (by omega) (okA_low h))
                go_wp2
                all_goals (go_ret; exact ⟨by rw [HR.out, hr.out]; rfl, rfl⟩)
              · have hr := Lib.hid (HBAD.out 3 (by omega) (okA_high h))
                go_wp2
                all_goals (go_ret; exact ⟨by rw [HR.out, hr.out]; rfl, rfl⟩)
              · have hr := Lib.hid (HBAD.out 3 (by omega) (by show okA 3 x.d3 = false; have := (show x.d3 = 3 by omega); simp [okA, this]))
                have g3 : (x.d3 == 3) = true := by simp; omega
                go_wp2
                all_goals (go_ret; exact ⟨by rw [HR.out, hr.out]; rfl, rfl⟩)
              · have HU := Lib.hid (ok_upto HJ.out (by show okA 3 x.d3 = true; simp [okA]; omega))
                have g3 : (x.d3 == 3) = false := by simp; omega
                go_wp2
                all_goals (go_round; (case rel => exact ⟨4, by omega, by go_num, HU.out⟩); (case measure => simp [intOf]))
            · have hok : okStep x = true := by
                have h0 := HJ.out 0 (by omega)
                have h1 := HJ.out 1 (by omega)
                have h2 := HJ.out 2 (by omega)
                have h3 := HJ.out 3 (by omega)
                simp only [ST.act] at h0 h1 h2 h3
                simp [okStep, h0, h1, h2, h3, he]
              have HOK := Lib.hid (HD.out.trans (by rw [HAL.out, hok, Bool.true_and]))
              clear hok
              go_wp2
              go_round
              case rel => exact ⟨k + 1, by omega, by go_num, HOK.out⟩
              case measure => simp [intOf]; omega
        · have hr : S.all okStep = false := by rw [HD.out, HAL.out]; simp [okStep, he]
          have HR2 := Lib.hid hr
          clear hr
          go_wp2
          go_ret
          exact ⟨by rw [HR.out, HR2.out]; rfl, rfl⟩
      · have hr : S.all okStep = true := by rw [HD.out, List.drop_eq_nil_of_le (by rw [HN.out]; exact Nat.le_refl _)]; rfl
        have HR2 := Lib.hid hr
        clear hr
        go_wp2
        go_ret
        exact ⟨by rw [HR.out, HR2.out]; rfl, rfl⟩
end Go.Proofs.Ytgfkgoiaoglhnaa.ac
