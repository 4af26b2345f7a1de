/- conciergelaw21.CutEntry, by a walk. -/
import Derived.Test.YtgfkgoiaoglhnaaProg
import Derived.WalkKit
import Derived.ProofKit
import Derived.Lib.Hide
import Derived.WalkLawsBesides
import Derived.WalkSpells
import Derived.Deep.RegionWith
import Derived.Deep.DeepCutAuto
import Derived.Deep.CutBlock
import Derived.Test.YtgfkgoiaoglhnaaJK
namespace Go.Proofs.Ytgfkgoiaoglhnaa.jr
open Go Go.RowKit
set_option linter.unusedVariables false
set_option linter.unusedSimpArgs false
set_option maxRecDepth 100000 in
theorem info_str2 : (Try.prog.info? 9).map (fun i => (i.zero, i.size, i.bytes)) = some (some (.string ⟨#[]⟩), 1, 16) := by kernel_rfl
theorem run_call2 {P : Program} {o : Oper} {a : Act} {fn : Func} {c : Code} (f : FuncId) (x y : Operand) (v u : Value) (tys : Array TypeId) (w : World) (hf : P.funcs[f]? = some fn) (hname : (fn.name == "runtime.NumGoroutine") = false) (hb : fn.body = some c) (ho : o.op = .call { callee := .value (.func f), args := #[x, y], argTypes := tys }) (hx : a.eval x = v) (hy : a.eval y = u) :
    (execOp a.eval o).run P w = .ok (.enter f #[v, u]) w := by
  have h1 : fn.name ≠ "runtime.NumGoroutine" := by simpa using hname
  have hf' : a.eval (.func f) = .func (.func f) #[] #[] := rfl
  unfold execOp
  simp [ho, resolve, invoke, hx, hy, hf', Deferred.ofValue, callFunc, hf, h1, hb]
theorem cutT_long (X : List ByteArray) : (cutT X).length = min 5 X.length := by simp [cutT]
theorem cutT_succ (X : List ByteArray) (j : Nat) (h : j < (cutT X).length) : ∃ hj : j < X.length, (cutT X).take (j + 1) = (cutT X).take j ++ [ac.cutS X[j] 40] := by
  have hj : j < X.length := by rw [cutT_long] at h; omega
  refine ⟨hj, ?_⟩
  rw [List.take_succ_eq_append_getElem h]
  congr 1
  simp [cutT]
theorem cutD_long (D : List (ByteArray × Int)) : (cutD D).length = min 3 D.length := by simp [cutD]
theorem cutD_succ (D : List (ByteArray × Int)) (j : Nat) (h : j < (cutD D).length) : ∃ hj : j < D.length, (cutD D).take (j + 1) = (cutD D).take j ++ [(ac.cutS (D[j]).1 40, (D[j]).2)] := by
  have hj : j < D.length := by rw [cutD_long] at h; omega
  refine ⟨hj, ?_⟩
  rw [List.take_succ_eq_append_getElem h]
  congr 1
  simp [cutD]
theorem below_blk {W w : World} {q : Nat} {x : Obj} (h : Below W.heap.size W w) (hb : W.heap[q]? = some x) : w.heap[q]? = some x := by
  rw [h.block q (Array.getElem?_eq_some_iff.1 hb).1]
  exact hb
set_option maxRecDepth 100000 in
set_option maxHeartbeats 8000000 in
theorem cutentry_calls (W : World) (e : En) (a1 a2 a3 : Option Addr) (n1 c1 n2 c2 n3 c3 : Nat) (hk : EnBig e) (he : EnAt W e a1 a2 a3 n1 c1 n2 c2 n3 c3) :
    Calls Try.prog 33 #[.agg (enCells e a1 a2 a3 n1 c1 n2 c2 n3 c3)] W fun en w' => ∃ v, en = .returned v ∧ OwnE W w' (cutE e) v ∧ Below W.heap.size W w' := by
  obtain ⟨i1, hj1, hy0, hy1, hy2⟩ := info_parts info_str2
  obtain ⟨i2, hi, hz0, hz1, hz2⟩ := info_parts info_dep
  obtain ⟨Z, hZ⟩ : ∃ Z, Z = W.heap.size := ⟨_, rfl⟩
  obtain ⟨Y, hY⟩ : ∃ Y, Y = W.heap.size + 1 := ⟨_, rfl⟩
  have HZY := Lib.hid (And.intro hZ hY)
  have HK := Lib.hid hk
  have HAT := Lib.hid he
  have m1 := cutT_long e.names
  have m2 := cutT_long e.addrs
  have m3 := cutD_long e.deps
  rw [he.ln] at m1
  rw [he.la] at m2
  rw [he.ld] at m3
  have hn1 : n1 ≤ 9223372036854775807 := by have := hk.ln; rw [he.ln] at this; exact this
  have hn2 : n2 ≤ 9223372036854775807 := by have := hk.la; rw [he.la] at this; exact this
  have hn3 : n3 ≤ 9223372036854775807 := by have := hk.ld; rw [he.ld] at this; exact this
  have hc1 := he.c1
  have hc2 := he.c2
  have hc3 := he.c3
  clear hk he hZ hY
  obtain ⟨M1, hM1⟩ : ∃ M, M = (cutT e.names).length := ⟨_, rfl⟩
  obtain ⟨M2, hM2⟩ : ∃ M, M = (cutT e.addrs).length := ⟨_, rfl⟩
  obtain ⟨M3, hM3⟩ : ∃ M, M = (cutD e.deps).length := ⟨_, rfl⟩
  rw [← hM1] at m1
  rw [← hM2] at m2
  rw [← hM3] at m3
  have HM := Lib.hid (And.intro hM1 (And.intro hM2 hM3))
  clear hM1 hM2 hM3
  unfold enCells
  go_enter Try.func33, Try.ntmps33
  have START : Hid (Below W.heap.size W ((W.alloc (.cells #[.string e.key, .int .i64 e.code, .slice a1 n1 c1, .slice a2 n2 c2, .int .i64 e.port, .int .i64 e.life, .int .i64 e.exp, .slice a3 n3 c3] 64)).alloc (.cells #[.string ⟨#[]⟩, .int .i64 0, .slice none 0 0, .slice none 0 0, .int .i64 0, .int .i64 0, .int .i64 0, .slice none 0 0] 64)) ∧ ((W.alloc (.cells #[.string e.key, .int .i64 e.code, .slice a1 n1 c1, .slice a2 n2 c2, .int .i64 e.port, .int .i64 e.life, .int .i64 e.exp, .slice a3 n3 c3] 64)).alloc (.cells #[.string ⟨#[]⟩, .int .i64 0, .slice none 0 0, .slice none 0 0, .int .i64 0, .int .i64 0, .int .i64 0, .slice none 0 0] 64)).heap[Z]? = some (.cells #[.string e.key, .int .i64 e.code, .slice a1 n1 c1, .slice a2 n2 c2, .int .i64 e.port, .int .i64 e.life, .int .i64 e.exp, .slice a3 n3 c3] 64 (0, 0)) ∧ ((W.alloc (.cells #[.string e.key, .int .i64 e.code, .slice a1 n1 c1, .slice a2 n2 c2, .int .i64 e.port, .int .i64 e.life, .int .i64 e.exp, .slice a3 n3 c3] 64)).alloc (.cells #[.string ⟨#[]⟩, .int .i64 0, .slice none 0 0, .slice none 0 0, .int .i64 0, .int .i64 0, .int .i64 0, .slice none 0 0] 64)).heap[Y]? = some (.cells #[.string ⟨#[]⟩, .int .i64 0, .slice none 0 0, .slice none 0 0, .int .i64 0, .int .i64 0, .int .i64 0, .slice none 0 0] 64 (0, 0))) := Lib.hid ⟨(lb.below_alloc W _).alloc (lb.below_alloc W _).size _, lb.blk_alloc (blk_new _ _ _ HZY.out.1), blk_new _ _ _ (HZY.out.2.trans (lb.size_alloc W _))⟩
  go_upto_block 0 with fail
  rw [← HZY.out.2, ← HZY.out.1]
  go_cut [3, 4] (fun nv av wx => av = .slice none 0 0 ∧ wx.ownsRow W.heap.size 9 1 nv (cutT e.names).length ((cutT e.names).map Value.string) ∧ Below W.heap.size W wx ∧ wx.heap[Z]? = some (.cells #[.string e.key, .int .i64 e.code, .slice a1 n1 c1, .slice a2 n2 c2, .int .i64 e.port, .int .i64 e.life, .int .i64 e.exp, .slice a3 n3 c3] 64 (0, 0)) ∧ wx.heap[Y]? = some (.cells #[.string ⟨#[]⟩, .int .i64 0, .slice none 0 0, .slice none 0 0, .int .i64 0, .int .i64 0, .int .i64 0, .slice none 0 0] 64 (0, 0)))
  case first =>
    go_wp2_with fail
    go_loopw [3, 5] (fun nv iv wr => ∃ j : Nat, j ≤ M1 ∧ iv = .int .i64 (j : Int) ∧ wr.ownsRow W.heap.size 9 1 nv j (((cutT e.names).take j).map Value.string) ∧ Below W.heap.size W wr ∧ wr.heap[Z]? = some (.cells #[.string e.key, .int .i64 e.code, .slice a1 n1 c1, .slice a2 n2 c2, .int .i64 e.port, .int .i64 e.life, .int .i64 e.exp, .slice a3 n3 c3] 64 (0, 0)) ∧ wr.heap[Y]? = some (.cells #[.string ⟨#[]⟩, .int .i64 0, .slice none 0 0, .slice none 0 0, .int .i64 0, .int .i64 0, .int .i64 0, .slice none 0 0] 64 (0, 0))) (fun _ iv _ => M1 - (intOf iv).toNat)
    case atStart => exact ⟨0, by omega, rfl, lb.own_nil _ _ _ _, START.out.1, START.out.2.1, START.out.2.2⟩
    case round =>
      obtain ⟨j, hj, rfl, ho, hb, hz, hy⟩ := hrel
      obtain ⟨al, cl, rfl⟩ := lb.own_shape ho
      have HO := Lib.hid ho
      have HB := Lib.hid hb
      have HZ := Lib.hid hz
      have HYB := Lib.hid hy
      have z2 : wr.cell? ⟨Z, 2, none⟩ = some (.slice a1 n1 c1) := by rw [blk_cell hz]; rfl
      clear ho hb hz hy
      rcases (show j < M1 ∨ j = M1 by omega) with hlt | rfl
      · obtain ⟨hjX, hst⟩ := cutT_succ e.names j (by rw [← HM.out.1]; exact hlt)
        obtain ⟨b, o, rfl, hc⟩ := HAT.out.tn.resolve_left (by intro h0; rw [h0] at hjX; cases hjX)
        have ec1 := (HB.out.cell (p := ⟨b, o + j, none⟩) (World.block_lt_of_cell? W _ (hc j hjX))).trans (hc j hjX)
        have hsz := HK.out.names _ (List.getElem_mem hjX)
        have hjn : j < n1 ∧ j < 5 := by omega
        obtain ⟨x, hx⟩ : ∃ x, e.names[j] = x := ⟨_, rfl⟩
        rw [hx] at ec1 hsz hst
        have HST := Lib.hid hst
        clear hc hx hst m1 m2 m3
        go_wp2_with (first
          | (go_at_call 34; refine (ac.cut_calls x 40 _ (by omega) hsz).mono ?_; rintro en w2 ⟨rfl, rfl⟩)
          | (at_builtin; refine lb.app1 rfl (.tmp 21) (.tmp 29) 34 rfl 9 i1 (.string ⟨#[]⟩) 1 16 Try.underlying34 hj1 hy0 hy1 hy2 rfl (by decide) W _ (.slice al j cl) j (((cutT e.names).take j).map Value.string) [.string (ac.cutS x 40)] rfl HO.out HB.out rfl rfl (by intro u hu; simp at hu; subst hu; rfl) (by omega) (by omega) ?_; intro v4 w4 ho4 hb4 hk4; have HO4 := Lib.hid ho4; have HB4 := Lib.hid hb4; have HK4 := Lib.hid hk4; clear ho4 hb4 hk4)
          | fail)
        refine ⟨⟨j + 1, by omega, by go_num, ?_, HB4.out, lb.blk_kept HZ.out (by decide) HK4.out, lb.blk_kept HYB.out (by decide) HK4.out⟩, by simp [intOf]; omega⟩
        rw [HST.out]
        simpa using HO4.out
      · have hfin : (cutT e.names).take j = cutT e.names := by rw [HM.out.1, List.take_length]
        have HF := Lib.hid hfin
        clear hfin
        rcases (show ¬ j < n1 ∨ (j < n1 ∧ ¬ j < 5) by omega) with hM | hM
        all_goals
          clear m1 m2 m3
          go_wp2_with fail
          all_goals
            go_meet
            refine ⟨rfl, ?_, HB.out, HZ.out, HYB.out⟩
            rw [← HM.out.1]
            have := HO.out
            rw [HF.out] at this
            exact this
  case rest =>
  obtain ⟨rfl, ho1, hb, hz, hy⟩ := hcut
  obtain ⟨w1, rfl⟩ : ∃ w1, w1 = wc := ⟨_, rfl⟩
  obtain ⟨al1, cl1, rfl⟩ := lb.own_shape ho1
  have H1 := Lib.hid ho1
  have HBc := Lib.hid hb
  have HZc := Lib.hid hz
  have HYc := Lib.hid hy
  clear ho1 hb hz hy START
  generalize hq1 : (cutT e.names).length = q1 at *
  have HQ1 := Lib.hid hq1
  clear hq1
  have z2 : w1.cell? ⟨Z, 3, none⟩ = some (.slice a2 n2 c2) := by rw [blk_cell HZc.out]; rfl
  go_upto_block 2 with fail
  go_cut [4] (fun nv wx => wx.ownsRow w1.heap.size 9 1 nv (cutT e.addrs).length ((cutT e.addrs).map Value.string) ∧ Below w1.heap.size w1 wx)
  case first =>
    go_wp2_with fail
    go_loopw [4, 6] (fun nv iv wr => ∃ j : Nat, j ≤ M2 ∧ iv = .int .i64 (j : Int) ∧ wr.ownsRow w1.heap.size 9 1 nv j (((cutT e.addrs).take j).map Value.string) ∧ Below w1.heap.size w1 wr) (fun _ iv _ => M2 - (intOf iv).toNat)
    case atStart => exact ⟨0, by omega, rfl, lb.own_nil _ _ _ _, Below.refl _ _⟩
    case round =>
      obtain ⟨j, hj, rfl, ho, hb⟩ := hrel
      obtain ⟨al, cl, rfl⟩ := lb.own_shape ho
      have HO := Lib.hid ho
      have HB := Lib.hid hb
      have HW := Lib.hid (lb.below_then HBc.out hb)
      have z3 : wr.cell? ⟨Z, 3, none⟩ = some (.slice a2 n2 c2) := by rw [blk_cell (below_blk hb HZc.out)]; rfl
      clear ho hb z2
      rcases (show j < M2 ∨ j = M2 by omega) with hlt | rfl
      · obtain ⟨hjX, hst⟩ := cutT_succ e.addrs j (by rw [← HM.out.2.1]; exact hlt)
        obtain ⟨b, o, rfl, hc⟩ := HAT.out.ta.resolve_left (by intro h0; rw [h0] at hjX; cases hjX)
        have ec1 := (HW.out.cell (p := ⟨b, o + j, none⟩) (World.block_lt_of_cell? W _ (hc j hjX))).trans (hc j hjX)
        have hsz := HK.out.addrs _ (List.getElem_mem hjX)
        have hjn : j < n2 ∧ j < 5 := by omega
        obtain ⟨x, hx⟩ : ∃ x, e.addrs[j] = x := ⟨_, rfl⟩
        rw [hx] at ec1 hsz hst
        have HST := Lib.hid hst
        clear hc hx hst m1 m2 m3
        go_wp2_with (first
          | (go_at_call 34; refine (ac.cut_calls x 40 _ (by omega) hsz).mono ?_; rintro en w2 ⟨rfl, rfl⟩)
          | (at_builtin; refine lb.app1 rfl (.tmp 43) (.tmp 51) 34 rfl 9 i1 (.string ⟨#[]⟩) 1 16 Try.underlying34 hj1 hy0 hy1 hy2 rfl (by decide) w1 _ (.slice al j cl) j (((cutT e.addrs).take j).map Value.string) [.string (ac.cutS x 40)] rfl HO.out HB.out rfl rfl (by intro u hu; simp at hu; subst hu; rfl) (by omega) (by omega) ?_; intro v4 w4 ho4 hb4 hk4; have HO4 := Lib.hid ho4; have HB4 := Lib.hid hb4; clear ho4 hb4 hk4)
          | fail)
        refine ⟨⟨j + 1, by omega, by go_num, ?_, HB4.out⟩, by simp [intOf]; omega⟩
        rw [HST.out]
        simpa using HO4.out
      · have hfin : (cutT e.addrs).take j = cutT e.addrs := by rw [HM.out.2.1, List.take_length]
        have HF := Lib.hid hfin
        clear hfin
        rcases (show ¬ j < n2 ∨ (j < n2 ∧ ¬ j < 5) by omega) with hM | hM
        all_goals
          clear m1 m2 m3
          go_wp2_with fail
          all_goals
            go_meet
            refine ⟨?_, HB.out⟩
            rw [← HM.out.2.1]
            have := HO.out
            rw [HF.out] at this
            exact this
  case rest =>
  obtain ⟨ho2, hb⟩ := hcut
  obtain ⟨al2, cl2, rfl⟩ := lb.own_shape ho2
  generalize hq2 : (cutT e.addrs).length = q2 at *
  have HQ2 := Lib.hid hq2
  clear hq2
  have hzc := below_blk hb HZc.out
  have hyc := below_blk hb HYc.out
  have z2 : wc.cell? ⟨Z, 2, none⟩ = some (.slice a1 n1 c1) := by rw [blk_cell hzc]; rfl
  have z3 : wc.cell? ⟨Z, 3, none⟩ = some (.slice a2 n2 c2) := by rw [blk_cell hzc]; rfl
  have f2 := ebf hzc rfl 2
  have f3 := ebf hzc rfl 3
  obtain ⟨w3, hw3⟩ : ∃ w3, w3 = (wc.setCell ⟨Z, 2, none⟩ (.slice al1 q1 cl1)).setCell ⟨Z, 3, none⟩ (.slice al2 q2 cl2) := ⟨_, rfl⟩
  have F3 : Hid (Below W.heap.size W w3 ∧ w3.heap[Z]? = some (.cells #[.string e.key, .int .i64 e.code, .slice al1 q1 cl1, .slice al2 q2 cl2, .int .i64 e.port, .int .i64 e.life, .int .i64 e.exp, .slice a3 n3 c3] 64 (0, 0)) ∧ w3.heap[Y]? = some (.cells #[.string ⟨#[]⟩, .int .i64 0, .slice none 0 0, .slice none 0 0, .int .i64 0, .int .i64 0, .int .i64 0, .slice none 0 0] 64 (0, 0)) ∧ w3.ownsRow W.heap.size 9 1 (.slice al1 q1 cl1) q1 ((cutT e.names).map Value.string) ∧ w3.ownsRow W.heap.size 9 1 (.slice al2 q2 cl2) q2 ((cutT e.addrs).map Value.string)) := by
    subst hw3
    have b1 := lb.blk_set (j := 2) (u := (.slice al1 q1 cl1)) hzc
    have b2 := lb.blk_set (j := 3) (u := (.slice al2 q2 cl2)) b1
    have hZW : W.heap.size ≤ Z := by rw [HZY.out.1]; exact Nat.le_refl _
    have hYZ : Y ≠ Z := by have := HZY.out.1; have := HZY.out.2; omega
    refine Lib.hid ⟨((lb.below_then HBc.out hb).setCell hZW _).setCell hZW _, b2, lb.blk_other (lb.blk_other hyc hYZ) hYZ, ?_, ?_⟩
    · exact lb.own_set (lb.own_set (lb.own_later H1.out hb) hzc (by decide) 2) b1 (by decide) 3
    · exact lb.own_set (lb.own_set (lb.own_base ho2 HBc.out.size) hzc (by decide) 2) b1 (by decide) 3
  have HW3 := Lib.hid hw3
  clear hw3 ho2 hb hzc hyc HBc HZc HYc H1
  go_upto_block 4 with fail
  rw [← HW3.out]
  clear z2 z3 f2 f3 HW3
  go_cut [7] (fun dv wx => wx.ownsRow w3.heap.size 120 2 dv (cutD e.deps).length ((cutD e.deps).flatMap depC) ∧ Below w3.heap.size w3 wx)
  case first =>
    go_wp2_with fail
    go_loopw [7, 8] (fun nv iv wr => ∃ j : Nat, j ≤ M3 ∧ iv = .int .i64 (j : Int) ∧ wr.ownsRow w3.heap.size 120 2 nv j (((cutD e.deps).take j).flatMap depC) ∧ Below w3.heap.size w3 wr) (fun _ iv _ => M3 - (intOf iv).toNat)
    case atStart => exact ⟨0, by omega, rfl, lb.own_nil _ _ _ _, Below.refl _ _⟩
    case round =>
      obtain ⟨j, hj, rfl, ho, hb⟩ := hrel
      obtain ⟨al, cl, rfl⟩ := lb.own_shape ho
      have HO := Lib.hid ho
      have HB := Lib.hid hb
      have HW := Lib.hid (lb.below_then F3.out.1 hb)
      have z7 : wr.cell? ⟨Z, 7, none⟩ = some (.slice a3 n3 c3) := by rw [blk_cell (below_blk hb F3.out.2.1)]; rfl
      clear ho hb
      rcases (show j < M3 ∨ j = M3 by omega) with hlt | rfl
      · obtain ⟨hjX, hst⟩ := cutD_succ e.deps j (by rw [← HM.out.2.2]; exact hlt)
        obtain ⟨b, o, rfl, hc⟩ := HAT.out.td.resolve_left (by intro h0; rw [h0] at hjX; cases hjX)
        have ec1 := (HW.out.cell (p := ⟨b, o + j * 2, none⟩) (World.block_lt_of_cell? W _ (hc j hjX).1)).trans (hc j hjX).1
        have ec2 := (HW.out.cell (p := ⟨b, o + j * 2 + 1, none⟩) (World.block_lt_of_cell? W _ (hc j hjX).2)).trans (hc j hjX).2
        have hsz := (HK.out.deps _ (List.getElem_mem hjX)).1
        have hjn : j < n3 ∧ j < 3 := by omega
        obtain ⟨⟨x, z⟩, hx⟩ : ∃ x, e.deps[j] = x := ⟨_, rfl⟩
        rw [hx] at ec1 ec2 hsz hst
        simp only at ec1 ec2 hsz hst
        have HST := Lib.hid hst
        clear hc hx hst m1 m2 m3
        go_upto_region 15 with fail
        go_region_law (first
          | (refine lb.scall rfl 34 #[.string x, .int .i64 40] wr.drew (run_call2 _ (.tmp 76) (.const (.int .i64 40)) _ _ _ _ Try.func34 (by kernel_rfl) rfl rfl (by simp [Act.eval, Act.put]) rfl) (ac.cut_calls x 40 wr.drew (by omega) hsz) ?_; rintro en w2 ⟨rfl, rfl⟩; refine ⟨_, rfl, ?_⟩)
          | (refine lb.sapp wr.heap.size rfl (.tmp 70) (.tmp 85) 62 rfl 120 i2 (.agg #[.string ⟨#[]⟩, .int .i64 0]) 2 24 Try.underlying62 hi hz0 hz1 hz2 rfl (by decide) w3 (wr.drew.alloc (.cells #[.string (ac.cutS x 40), .int .i64 z] 120)) (.slice al j cl) j (((cutD e.deps).take j).flatMap depC) [.string (ac.cutS x 40), .int .i64 z] (by simp [Act.eval, Act.put]) (HO.out.drew.alloc _) (HB.out.drew.alloc HB.out.drew.size _) (by simp [Act.eval, Act.put]) rfl (fun i u hu => (lb.cell_new _ _ _ _ _ i rfl).trans ((List.getElem?_toArray ..).trans hu)) (by intro u hu; simp at hu; rcases hu with rfl | rfl <;> rfl) (by omega) (by omega) ?_; intro v' w' hown' hb' hkb; have HO4 := Lib.hid hown'; have HB4 := Lib.hid hb'; clear hown' hb' hkb)
          | fail)
        all_goals
          go_wp2_with fail
          refine ⟨⟨j + 1, by omega, by go_num, ?_, HB4.out⟩, by simp [intOf]; omega⟩
          rw [HST.out, List.flatMap_append]
          exact lb.own_cast HO4.out (by simp [depC]) rfl
      · have hfin : (cutD e.deps).take j = cutD e.deps := by rw [HM.out.2.2, List.take_length]
        have HF := Lib.hid hfin
        clear hfin
        rcases (show ¬ j < n3 ∨ (j < n3 ∧ ¬ j < 3) by omega) with hM | hM
        all_goals
          clear m1 m2 m3
          go_wp2_with fail
          all_goals
            go_meet
            refine ⟨?_, HB.out⟩
            rw [← HM.out.2.2]
            have := HO.out
            rw [HF.out] at this
            exact this
  case rest =>
  obtain ⟨ho3, hb⟩ := hcut
  obtain ⟨al3, cl3, rfl⟩ := lb.own_shape ho3
  generalize hq3 : (cutD e.deps).length = q3 at *
  have HQ3 := Lib.hid hq3
  clear hq3
  have hzc := below_blk hb F3.out.2.1
  have hyc := below_blk hb F3.out.2.2.1
  have z7 : wc.cell? ⟨Z, 7, none⟩ = some (.slice a3 n3 c3) := by rw [blk_cell hzc]; rfl
  have z0 : wc.cell? ⟨Z, 0, none⟩ = some (.string e.key) := by rw [blk_cell hzc]; rfl
  have f7 := ebf hzc rfl 7
  have f0 := ebf hzc rfl 0
  obtain ⟨w4, hw4⟩ : ∃ w4, w4 = (wc.setCell ⟨Z, 7, none⟩ (.slice al3 q3 cl3)).setCell ⟨Z, 0, none⟩ (.string (ac.cutS e.key 300)) := ⟨_, rfl⟩
  have F4 : Hid (Below W.heap.size W w4 ∧ w4.heap[Z]? = some (.cells #[.string (ac.cutS e.key 300), .int .i64 e.code, .slice al1 q1 cl1, .slice al2 q2 cl2, .int .i64 e.port, .int .i64 e.life, .int .i64 e.exp, .slice al3 q3 cl3] 64 (0, 0)) ∧ w4.heap[Y]? = some (.cells #[.string ⟨#[]⟩, .int .i64 0, .slice none 0 0, .slice none 0 0, .int .i64 0, .int .i64 0, .int .i64 0, .slice none 0 0] 64 (0, 0)) ∧ w4.ownsRow W.heap.size 9 1 (.slice al1 q1 cl1) q1 ((cutT e.names).map Value.string) ∧ w4.ownsRow W.heap.size 9 1 (.slice al2 q2 cl2) q2 ((cutT e.addrs).map Value.string) ∧ w4.ownsRow W.heap.size 120 2 (.slice al3 q3 cl3) q3 ((cutD e.deps).flatMap depC)) := by
    subst hw4
    have b1 := lb.blk_set (j := 7) (u := (.slice al3 q3 cl3)) hzc
    have b2 := lb.blk_set (j := 0) (u := .string (ac.cutS e.key 300)) b1
    have hZW : W.heap.size ≤ Z := by rw [HZY.out.1]; exact Nat.le_refl _
    have hYZ : Y ≠ Z := by have := HZY.out.1; have := HZY.out.2; omega
    refine Lib.hid ⟨((lb.below_then F3.out.1 hb).setCell hZW _).setCell hZW _, b2, lb.blk_other (lb.blk_other hyc hYZ) hYZ, ?_, ?_, ?_⟩
    · exact lb.own_set (lb.own_set (lb.own_later F3.out.2.2.2.1 hb) hzc (by decide) 7) b1 (by decide) 0
    · exact lb.own_set (lb.own_set (lb.own_later F3.out.2.2.2.2 hb) hzc (by decide) 7) b1 (by decide) 0
    · exact lb.own_set (lb.own_set (lb.own_base ho3 F3.out.1.size) hzc (by decide) 7) b1 (by decide) 0
  have HW4 := Lib.hid hw4
  have hks := HK.out.key
  clear hw4 ho3 hb hzc hyc F3
  go_upto_region 18 with (first
    | (go_at_call 34; refine (ac.cut_calls e.key 300 _ (by omega) hks).mono ?_; rintro en w2 ⟨rfl, rfl⟩)
    | fail)
  rw [← HW4.out]
  clear z7 z0 f7 f0 HW4
  have hz := F4.out.2.1
  have hy := F4.out.2.2.1
  have hfz := ebf hy rfl
  have z0 : w4.cell? ⟨Z, 0, none⟩ = _ := blk_cell hz
  have z1 : w4.cell? ⟨Z, 1, none⟩ = _ := blk_cell hz
  have z2 : w4.cell? ⟨Z, 2, none⟩ = _ := blk_cell hz
  have z3 : w4.cell? ⟨Z, 3, none⟩ = _ := blk_cell hz
  have z4 : w4.cell? ⟨Z, 4, none⟩ = _ := blk_cell hz
  have z5 : w4.cell? ⟨Z, 5, none⟩ = _ := blk_cell hz
  have z6 : w4.cell? ⟨Z, 6, none⟩ = _ := blk_cell hz
  have z7 : w4.cell? ⟨Z, 7, none⟩ = _ := blk_cell hz
  have x0 : w4.cell? ⟨Y, 0, none⟩ = _ := blk_cell hy
  have x1 : w4.cell? ⟨Y, 1, none⟩ = _ := blk_cell hy
  have x2 : w4.cell? ⟨Y, 2, none⟩ = _ := blk_cell hy
  have x3 : w4.cell? ⟨Y, 3, none⟩ = _ := blk_cell hy
  have x4 : w4.cell? ⟨Y, 4, none⟩ = _ := blk_cell hy
  have x5 : w4.cell? ⟨Y, 5, none⟩ = _ := blk_cell hy
  have x6 : w4.cell? ⟨Y, 6, none⟩ = _ := blk_cell hy
  have x7 : w4.cell? ⟨Y, 7, none⟩ = _ := blk_cell hy
  simp only [List.getElem?_toArray, List.getElem?_cons_succ, List.getElem?_cons_zero] at z0 z1 z2 z3 z4 z5 z6 z7 x0 x1 x2 x3 x4 x5 x6 x7
  have y0 := hfz 0
  have y1 := hfz 1
  have y2 := hfz 2
  have y3 := hfz 3
  have y4 := hfz 4
  have y5 := hfz 5
  have y6 := hfz 6
  have y7 := hfz 7
  have FIN := Lib.hid (put8_heap hy (.string (ac.cutS e.key 300)) (.int .i64 e.code) (.slice al1 q1 cl1) (.slice al2 q2 cl2) (.int .i64 e.port) (.int .i64 e.life) (.int .i64 e.exp) (.slice al3 q3 cl3))
  have G1 := Lib.hid (put8_own F4.out.2.2.2.1 hy (by decide) (.string (ac.cutS e.key 300)) (.int .i64 e.code) (.slice al1 q1 cl1) (.slice al2 q2 cl2) (.int .i64 e.port) (.int .i64 e.life) (.int .i64 e.exp) (.slice al3 q3 cl3))
  have G2 := Lib.hid (put8_own F4.out.2.2.2.2.1 hy (by decide) (.string (ac.cutS e.key 300)) (.int .i64 e.code) (.slice al1 q1 cl1) (.slice al2 q2 cl2) (.int .i64 e.port) (.int .i64 e.life) (.int .i64 e.exp) (.slice al3 q3 cl3))
  have G3 := Lib.hid (put8_own F4.out.2.2.2.2.2 hy (by decide) (.string (ac.cutS e.key 300)) (.int .i64 e.code) (.slice al1 q1 cl1) (.slice al2 q2 cl2) (.int .i64 e.port) (.int .i64 e.life) (.int .i64 e.exp) (.slice al3 q3 cl3))
  have G4 := Lib.hid (put8_below F4.out.1 (show W.heap.size ≤ Y by rw [HZY.out.2]; omega) (.string (ac.cutS e.key 300)) (.int .i64 e.code) (.slice al1 q1 cl1) (.slice al2 q2 cl2) (.int .i64 e.port) (.int .i64 e.life) (.int .i64 e.exp) (.slice al3 q3 cl3))
  clear hz hy hfz m1 m2 m3
  obtain ⟨ks, hks2⟩ : ∃ k, ac.cutS e.key 300 = k := ⟨_, rfl⟩
  rw [hks2] at z0 FIN G1 G2 G3 G4
  have HKS := Lib.hid hks2
  clear hks2 hks
  have DONE : Hid (∃ v, Ending.returned (.agg #[.string ks, .int .i64 e.code, .slice al1 q1 cl1, .slice al2 q2 cl2, .int .i64 e.port, .int .i64 e.life, .int .i64 e.exp, .slice al3 q3 cl3]) = Ending.returned v ∧ OwnE W (put8 w4 Y (.string ks) (.int .i64 e.code) (.slice al1 q1 cl1) (.slice al2 q2 cl2) (.int .i64 e.port) (.int .i64 e.life) (.int .i64 e.exp) (.slice al3 q3 cl3)) (cutE e) v ∧ Below W.heap.size W (put8 w4 Y (.string ks) (.int .i64 e.code) (.slice al1 q1 cl1) (.slice al2 q2 cl2) (.int .i64 e.port) (.int .i64 e.life) (.int .i64 e.exp) (.slice al3 q3 cl3))) := by
    refine Lib.hid ⟨_, rfl, ⟨.slice al1 q1 cl1, .slice al2 q2 cl2, .slice al3 q3 cl3, ?_, ?_, ?_, ?_⟩, G4.out⟩
    · rw [← HKS.out]; rfl
    · have := G1.out; rw [← HQ1.out] at this ⊢; exact this
    · have := G2.out; rw [← HQ2.out] at this ⊢; exact this
    · have := G3.out; rw [← HQ3.out] at this ⊢; exact this
  go_wp2_with fail
  refine bodyPost_ret (results_cell1 (p := 2) rfl _ _ Y 64 _ (0, 0) _ (by rfl) FIN.out Try.underlying64 rfl size_entry) rfl DONE.out
end Go.Proofs.Ytgfkgoiaoglhnaa.jr
