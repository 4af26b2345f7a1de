/- journal.Read: what it makes of bytes. -/
import Derived.Test.YtgfkgoiaoglhnaaProg
import Derived.WalkKit
import Derived.ProofKit
import Derived.Lib.Hide
import Derived.WalkLawsBesides
import Derived.WalkSpells
import Derived.Deep.RegionWith
import Derived.Deep.DeepCutAuto
import Derived.Deep.CutBlock
import Derived.Deep.RegionLaw
import Derived.Laws.Rows
import Derived.Test.YtgfkgoiaoglhnaaJL
namespace Go.Proofs.Ytgfkgoiaoglhnaa.jr
open Go Go.RowKit
set_option linter.unusedVariables false
set_option linter.unusedSimpArgs false
def bs (l : List UInt8) : ByteArray := ⟨l.toArray⟩
/-- Dependencies that are read. -/
def rD : Nat → Rd → List (ByteArray × Int) × Rd
  | 0, r => ([], r)
  | n + 1, r => if r.bad = true then ([], r) else ((bs (rText r).1, (rNum (rText r).2).1) :: (rD n (rNum (rText r).2).2).1, (rD n (rNum (rText r).2).2).2)
def q1 (l : List UInt8) : List UInt8 × Rd := rTake ⟨l, 0, decide (8192 < l.length)⟩ 1
def kindL (l : List UInt8) : Nat := leN (q1 l).1
def q2 (l : List UInt8) : List UInt8 × Rd := rText (q1 l).2
def q3 (l : List UInt8) : Rd := ⟨(q2 l).2.b, 0, (q2 l).2.bad⟩
def q4 (l : List UInt8) : Int × Rd := rNum (q3 l)
def q5 (l : List UInt8) : Int × Rd := rNum (q4 l).2
def q6 (l : List UInt8) : Rd := ⟨(q5 l).2.b, (q5 l).2.L, (q5 l).2.bad || decide (65535 < (q4 l).1) || decide (65535 < (q5 l).1)⟩
def q7 (l : List UInt8) : Int × Rd := rNum (q6 l)
def q8 (l : List UInt8) : Int × Rd := rNum (q7 l).2
def q9 (l : List UInt8) : List (List UInt8) × Rd := rList (q8 l).2
def q10 (l : List UInt8) : List (List UInt8) × Rd := rList (q9 l).2
def q11 (l : List UInt8) : Nat × Rd := rCount (q10 l).2
def q12 (l : List UInt8) : List (ByteArray × Int) × Rd := rD (q11 l).1 (q11 l).2
def readE (l : List UInt8) : En := if kindL l = 1 then ⟨bs (q2 l).1, (q4 l).1, (q9 l).1.map bs, (q10 l).1.map bs, (q5 l).1, (q7 l).1, (q8 l).1, (q12 l).1⟩ else ⟨bs (q2 l).1, 0, [], [], 0, 0, 0, []⟩
def readF (l : List UInt8) : Rd := if kindL l = 1 then (q12 l).2 else q3 l
def readOk (l : List UInt8) : Bool := !(readF l).bad && decide ((readF l).b.length = 0) && (decide (kindL l = 1) || decide (kindL l = 2))
theorem RS.set_other {W0 W : World} {k q j : Nat} {r : Rd} {u : Value} (h : RS W0 W k r) (hne : k ≠ q) : RS W0 (W.setCell ⟨q, j, none⟩ u) k r := by
  obtain ⟨h0, ad, c, h1, h2⟩ := h
  exact ⟨h0, ad, c, lb.blk_other h1 hne, h2⟩
theorem RS.alloc {W0 W : World} {k : Nat} {r : Rd} (h : RS W0 W k r) (o : Obj) : RS W0 (W.alloc o) k r := by
  obtain ⟨h0, ad, c, h1, h2⟩ := h
  exact ⟨h0, ad, c, lb.blk_alloc h1, h2⟩
theorem KR.blk {k q : Nat} {W w : World} (h : KR k W w) {x : Obj} (hb : W.heap[q]? = some x) (hk : q ≠ k) : w.heap[q]? = some x := by
  rw [h.2 q (Array.getElem?_eq_some_iff.1 hb).1 hk]
  exact hb
theorem num_to (W W0 : World) (k : Nat) (r r' : Rd) (x : Int) (hx : rNum r = (x, r')) (hb : Below W0.heap.size W0 W) (h : RS W0 W k r) :
    Calls Try.prog 62 #[.pointer (some ⟨k, 0, none⟩)] W fun e w' => e = .returned (.int .i64 x) ∧ RS W0 w' k r' ∧ Below W0.heap.size W0 w' ∧ KR k W w' := by
  have := num_rs W W0 k r hb h
  rw [hx] at this
  exact this
theorem text_to (W W0 : World) (k : Nat) (r r' : Rd) (s : List UInt8) (hx : rText r = (s, r')) (hL : 0 ≤ r.L ∧ r.L ≤ 100000000) (hb : Below W0.heap.size W0 W) (h : RS W0 W k r) :
    Calls Try.prog 61 #[.pointer (some ⟨k, 0, none⟩)] W fun e w' => e = .returned (.string (bs s)) ∧ RS W0 w' k r' ∧ Below W0.heap.size W0 w' ∧ KR k W w' := by
  have := rtext_rs W W0 k r hL hb h
  rw [hx] at this
  exact this
theorem ebf {w : World} {q : Nat} {c : Array Value} {t : TypeId} {m : Nat × Nat} (h : w.heap[q]? = some (.cells c t m)) (hm : m = (0, 0)) : ∀ j, w.frozen? ⟨q, j, none⟩ = false := by
  subst hm
  intro j
  simp [World.frozen?, h]
set_option maxRecDepth 100000 in
theorem info_dep : (Try.prog.info? 120).map (fun i => (i.zero, i.size, i.bytes)) = some (some (.agg #[.string ⟨#[]⟩, .int .i64 0]), 2, 24) := by kernel_rfl
def depC (d : ByteArray × Int) : List Value := [.string d.1, .int .i64 d.2]
theorem RS.kept_but {e : TypeId} {W0 w w' : World} {k : Nat} {r : Rd} (h : RS W0 w k r) (hk : lb.KeptBut e w w') (ht : 122 ≠ e) : RS W0 w' k r := by
  obtain ⟨h0, ad, c, h1, h2⟩ := h
  exact ⟨h0, ad, c, lb.blk_kept h1 ht hk, h2⟩
theorem run_call1 {P : Program} {o : Oper} {a : Act} {fn : Func} {c : Code} (f : FuncId) (x : Operand) (v : Value) (tys : Array TypeId) (w : World) (hf : P.funcs[f]? = some fn) (hname : (fn.name == "runtime.NumGoroutine") = false) (hb : fn.body = some c) (ho : o.op = .call { callee := .value (.func f), args := #[x], argTypes := tys }) (hx : a.eval x = v) :
    (execOp a.eval o).run P w = .ok (.enter f #[v]) w := by
  have h1 : fn.name ≠ "runtime.NumGoroutine" := by simpa using hname
  have hf' : a.eval (.func f) = .func (.func f) #[] #[] := rfl
  unfold execOp
  simp [ho, resolve, invoke, hx, hf', Deferred.ofValue, callFunc, hf, h1, hb]
theorem map_bs (L : List (List UInt8)) : (L.map bs).map Value.string = L.map lb.sV := by rw [List.map_map]; rfl
theorem rTake_L (r : Rd) (n : Nat) : (rTake r n).2.L = r.L := by unfold rTake; split <;> rfl
theorem rNum_L (r : Rd) : (rNum r).2.L = r.L := rTake_L r 8
abbrev put8 (w : World) (Z : Nat) (v0 v1 v2 v3 v4 v5 v6 v7 : Value) : World :=
  (((((((w.setCell ⟨Z, 0, none⟩ v0).setCell ⟨Z, 1, none⟩ v1).setCell ⟨Z, 2, none⟩ v2).setCell ⟨Z, 3, none⟩ v3).setCell ⟨Z, 4, none⟩ v4).setCell ⟨Z, 5, none⟩ v5).setCell ⟨Z, 6, none⟩ v6).setCell ⟨Z, 7, none⟩ v7
theorem put8_heap {w : World} {Z : Nat} {c0 c1 c2 c3 c4 c5 c6 c7 : Value} {t : TypeId} {m : Nat × Nat} (h : w.heap[Z]? = some (.cells #[c0, c1, c2, c3, c4, c5, c6, c7] t m)) (v0 v1 v2 v3 v4 v5 v6 v7 : Value) : (put8 w Z v0 v1 v2 v3 v4 v5 v6 v7).heap[Z]? = some (.cells #[v0, v1, v2, v3, v4, v5, v6, v7] t m) := by
  have h0 : (w.setCell ⟨Z, 0, none⟩ v0).heap[Z]? = some (.cells #[v0, c1, c2, c3, c4, c5, c6, c7] t m) := by rw [lb.blk_set h]; rfl
  have h1 : ((w.setCell ⟨Z, 0, none⟩ v0).setCell ⟨Z, 1, none⟩ v1).heap[Z]? = some (.cells #[v0, v1, c2, c3, c4, c5, c6, c7] t m) := by rw [lb.blk_set h0]; rfl
  have h2 : (((w.setCell ⟨Z, 0, none⟩ v0).setCell ⟨Z, 1, none⟩ v1).setCell ⟨Z, 2, none⟩ v2).heap[Z]? = some (.cells #[v0, v1, v2, c3, c4, c5, c6, c7] t m) := by rw [lb.blk_set h1]; rfl
  have h3 : ((((w.setCell ⟨Z, 0, none⟩ v0).setCell ⟨Z, 1, none⟩ v1).setCell ⟨Z, 2, none⟩ v2).setCell ⟨Z, 3, none⟩ v3).heap[Z]? = some (.cells #[v0, v1, v2, v3, c4, c5, c6, c7] t m) := by rw [lb.blk_set h2]; rfl
  have h4 : (((((w.setCell ⟨Z, 0, none⟩ v0).setCell ⟨Z, 1, none⟩ v1).setCell ⟨Z, 2, none⟩ v2).setCell ⟨Z, 3, none⟩ v3).setCell ⟨Z, 4, none⟩ v4).heap[Z]? = some (.cells #[v0, v1, v2, v3, v4, c5, c6, c7] t m) := by rw [lb.blk_set h3]; rfl
  have h5 : ((((((w.setCell ⟨Z, 0, none⟩ v0).setCell ⟨Z, 1, none⟩ v1).setCell ⟨Z, 2, none⟩ v2).setCell ⟨Z, 3, none⟩ v3).setCell ⟨Z, 4, none⟩ v4).setCell ⟨Z, 5, none⟩ v5).heap[Z]? = some (.cells #[v0, v1, v2, v3, v4, v5, c6, c7] t m) := by rw [lb.blk_set h4]; rfl
  have h6 : (((((((w.setCell ⟨Z, 0, none⟩ v0).setCell ⟨Z, 1, none⟩ v1).setCell ⟨Z, 2, none⟩ v2).setCell ⟨Z, 3, none⟩ v3).setCell ⟨Z, 4, none⟩ v4).setCell ⟨Z, 5, none⟩ v5).setCell ⟨Z, 6, none⟩ v6).heap[Z]? = some (.cells #[v0, v1, v2, v3, v4, v5, v6, c7] t m) := by rw [lb.blk_set h5]; rfl
  have h7 : ((((((((w.setCell ⟨Z, 0, none⟩ v0).setCell ⟨Z, 1, none⟩ v1).setCell ⟨Z, 2, none⟩ v2).setCell ⟨Z, 3, none⟩ v3).setCell ⟨Z, 4, none⟩ v4).setCell ⟨Z, 5, none⟩ v5).setCell ⟨Z, 6, none⟩ v6).setCell ⟨Z, 7, none⟩ v7).heap[Z]? = some (.cells #[v0, v1, v2, v3, v4, v5, v6, v7] t m) := by rw [lb.blk_set h6]; rfl
  exact h7
theorem put8_below {W w : World} {Z : Nat} (h : Below W.heap.size W w) (hZ : W.heap.size ≤ Z) (v0 v1 v2 v3 v4 v5 v6 v7 : Value) : Below W.heap.size W (put8 w Z v0 v1 v2 v3 v4 v5 v6 v7) :=
  (((((((h.setCell hZ _).setCell hZ _).setCell hZ _).setCell hZ _).setCell hZ _).setCell hZ _).setCell hZ _).setCell hZ _
theorem put8_own {w : World} {Z B e s n : Nat} {u : Value} {xs : List Value} {c0 c1 c2 c3 c4 c5 c6 c7 : Value} {t : TypeId} {m : Nat × Nat} (ho : w.ownsRow B e s u n xs) (h : w.heap[Z]? = some (.cells #[c0, c1, c2, c3, c4, c5, c6, c7] t m)) (hte : t ≠ e) (v0 v1 v2 v3 v4 v5 v6 v7 : Value) : (put8 w Z v0 v1 v2 v3 v4 v5 v6 v7).ownsRow B e s u n xs := by
  have h0 := lb.blk_set (j := 0) (u := v0) h
  have h1 := lb.blk_set (j := 1) (u := v1) h0
  have h2 := lb.blk_set (j := 2) (u := v2) h1
  have h3 := lb.blk_set (j := 3) (u := v3) h2
  have h4 := lb.blk_set (j := 4) (u := v4) h3
  have h5 := lb.blk_set (j := 5) (u := v5) h4
  have h6 := lb.blk_set (j := 6) (u := v6) h5
  exact lb.own_set (lb.own_set (lb.own_set (lb.own_set (lb.own_set (lb.own_set (lb.own_set (lb.own_set ho h hte 0) h0 hte 1) h1 hte 2) h2 hte 3) h3 hte 4) h4 hte 5) h5 hte 6) h6 hte 7
theorem results_cell3 {P : Program} {fn : Func} {p a b : Tmp} {ty : TypeId} (hf : fn.results = #[.cell p ty, .tmp a, .tmp b]) (tmps : Array Value) (w : World) (g : Nat) (t : TypeId) (cs : Array Value) (fr : Nat × Nat) (d : TypeDesc)
    (hp : tmps.getD p undef = .pointer (some ⟨g, 0, none⟩)) (hg : w.heap[g]? = some (.cells cs t fr))
    (hu : P.underlying ty = some d) (hd : (match d with | .struct _ | .array _ _ => true | _ => false) = true) (hi : (P.info? ty).map (·.size) = some cs.size) :
    (results fn tmps).run P w = .ok (.tuple #[.agg cs, tmps.getD a undef, tmps.getD b undef]) w := by
  have hp' : tmps[p]?.getD undef = .pointer (some ⟨g, 0, none⟩) := by simpa using hp
  simp [results, hf, hp', asAddr, run_loadVar_row w g t ty cs fr d hg hu hd hi]
set_option maxRecDepth 100000 in
theorem size_entry : (Try.prog.info? 64).map (·.size) = some 8 := by kernel_rfl
/-- What Read hands back. -/
def ReadPost (W : World) (l : List UInt8) (e : Ending) (w' : World) : Prop :=
  (readOk l = false ∧ e = .returned (.tuple #[.agg (enCells ⟨⟨#[]⟩, 0, [], [], 0, 0, 0, []⟩ none none none 0 0 0 0 0 0), .bool false, .iface 32 (.int .i64 10)])) ∨
  (readOk l = true ∧ ∃ v1 v2 v3, e = .returned (.tuple #[.agg #[.string (readE l).key, .int .i64 (readE l).code, v1, v2, .int .i64 (readE l).port, .int .i64 (readE l).life, .int .i64 (readE l).exp, v3], .bool (decide (kindL l = 1)), .nilIface]) ∧
    w'.ownsRow W.heap.size 9 1 v1 (readE l).names.length ((readE l).names.map Value.string) ∧ w'.ownsRow W.heap.size 9 1 v2 (readE l).addrs.length ((readE l).addrs.map Value.string) ∧ w'.ownsRow W.heap.size 120 2 v3 (readE l).deps.length ((readE l).deps.flatMap fun d => [.string d.1, .int .i64 d.2]))
set_option maxRecDepth 100000 in
set_option maxHeartbeats 8000000 in
theorem read_calls (W : World) (ad : Option Addr) (n c : Nat) (l : List UInt8) (hl : l.length = n) (hn : n ≤ 1000000) (hsb : lb.SB W ad l c) :
    Calls Try.prog 35 #[.slice ad n c] W fun e w' => ReadPost W l e w' ∧ Below W.heap.size W w' := by
  have HS := Lib.hid hsb
  subst hl
  clear hsb
  obtain ⟨k, hk⟩ : ∃ k, k = W.heap.size + 1 := ⟨_, rfl⟩
  have HK := Lib.hid hk
  clear hk
  have e8 : decide ((8192 : Int) < (l.length : Int)) = decide (8192 < l.length) := by rw [decide_eq_decide]; omega
  have HE8 := Lib.hid e8
  clear e8
  obtain ⟨K, hK⟩ : ∃ K, kindL l = K := ⟨_, rfl⟩
  have HKK := Lib.hid hK
  have hK256 : K < 256 := by
    have := leN_le (q1 l).1 1 (rTake_len _ 1)
    rw [← hK]
    simpa [kindL] using this
  clear hK
  go_enter Try.func35, Try.ntmps35
  go_upto_region 1 with fail
  go_cut [5] (fun pv wx => pv = .pointer (some ⟨k, 0, none⟩) ∧ RS W wx k ⟨l, 0, decide (8192 < l.length)⟩ ∧ Below W.heap.size W wx ∧ wx.heap[W.heap.size]? = some (.cells #[.string ⟨#[]⟩, .int .i64 0, .slice none 0 0, .slice none 0 0, .int .i64 0, .int .i64 0, .int .i64 0, .slice none 0 0] 64 (0, 0)))
  case first =>
    go_wp2_with fail
    go_meet
    rw [HE8.out, HK.out]
    exact ⟨rfl, ⟨by omega, ad, c, blk_new _ _ _ (lb.size_alloc _ _), HS.out⟩, (lb.below_alloc W _).alloc (lb.below_alloc W _).size _, lb.blk_alloc (blk_new _ _ _ rfl)⟩
  case rest =>
    obtain ⟨rfl, hrs, hb, hz⟩ := hcut
    have HRS := Lib.hid hrs
    have HB := Lib.hid hb
    have HZ := Lib.hid hz
    clear hrs hb hz
    have hzk : W.heap.size ≠ k := by rw [HK.out]; omega
    have hKL : leN (rTake ⟨l, 0, decide (8192 < l.length)⟩ 1).1 = K := HKK.out
    have HKL := Lib.hid hKL
    clear hKL
    go_upto_region 3 with (first
      | (go_at_call 60; refine (take_rs wc W k 1 _ (by omega) HB.out HRS.out).mono ?_; rintro e w1 ⟨a1, c1, rfl, hs1, h1, hb1, hk1⟩; have HS1 := Lib.hid hs1; have H1 : Hid (RS W w1 k (q1 l).2) := Lib.hid h1; have HB1 := Lib.hid hb1; have HZ1 := Lib.hid (hk1.blk HZ.out hzk); clear hs1 h1 hb1 hk1)
      | (go_at_call 59; refine (get_calls a1 c1 _ w1 (HS1.out.below HB1.out) (Nat.le_trans (rTake_len _ _) (by omega))).mono ?_; rintro e w2 ⟨rfl, hw2⟩; obtain rfl := hw2; rw [HKL.out])
      | fail)
    have hL1 : (q1 l).2.L = 0 := rTake_L _ _
    go_cut [7] (fun pv wx => ∃ q, k < q ∧ pv = .pointer (some ⟨q, 0, none⟩) ∧ RS W wx k (q2 l).2 ∧ wx.heap[q]? = some (.cells #[.string (bs (q2 l).1), .int .i64 0, .slice none 0 0, .slice none 0 0, .int .i64 0, .int .i64 0, .int .i64 0, .slice none 0 0] 64 (0, 0)) ∧ Below W.heap.size W wx ∧ wx.heap[W.heap.size]? = some (.cells #[.string ⟨#[]⟩, .int .i64 0, .slice none 0 0, .slice none 0 0, .int .i64 0, .int .i64 0, .int .i64 0, .slice none 0 0] 64 (0, 0)))
    case first =>
      have HT := Lib.hid (text_to w1 W k (q1 l).2 (q2 l).2 (q2 l).1 rfl (by rw [hL1]; omega) HB1.out H1.out)
      go_wp2_with (first
        | (go_at_call 61; refine HT.out.mono ?_; rintro e w3 ⟨rfl, h3, hb3, hk3⟩; have H3 := Lib.hid h3; have HB3 := Lib.hid hb3; have HZ3 := Lib.hid (hk3.blk HZ1.out hzk); clear h3 hb3 hk3)
        | fail)
      go_meet
      exact ⟨_, H3.out.lt, rfl, H3.out.alloc _, blk_new _ _ _ rfl, HB3.out.alloc HB3.out.size _, lb.blk_alloc HZ3.out⟩
    case rest =>
    obtain ⟨q, hkq, rfl, hrs, hq, hb, hz⟩ := hcut
    obtain ⟨hk0, c1', _, hf⟩ := rs_facts hrs
    have f1 := hf 1
    have HRS := Lib.hid hrs
    have HQ := Lib.hid hq
    have HB := Lib.hid hb
    have HZ := Lib.hid hz
    have hqk : q ≠ k := by omega
    have hzq : W.heap.size ≠ q := by omega
    clear hrs hq hb hz hf
    go_upto_region 4 with fail
    go_cut [5] (fun pv wx => pv = .pointer (some ⟨k, 0, none⟩) ∧ RS W wx k (q3 l) ∧ wx.heap[q]? = some (.cells #[.string (bs (q2 l).1), .int .i64 0, .slice none 0 0, .slice none 0 0, .int .i64 0, .int .i64 0, .int .i64 0, .slice none 0 0] 64 (0, 0)) ∧ Below W.heap.size W wx ∧ wx.heap[W.heap.size]? = some (.cells #[.string ⟨#[]⟩, .int .i64 0, .slice none 0 0, .slice none 0 0, .int .i64 0, .int .i64 0, .int .i64 0, .slice none 0 0] 64 (0, 0)))
    case first =>
      go_wp2_with fail
      go_meet
      exact ⟨rfl, rs_long HRS.out 0, lb.blk_other HQ.out hqk, HB.out.setCell hk0 _, lb.blk_other HZ.out hzk⟩
    case rest =>
    obtain ⟨rfl, hrs, hq, hb, hz⟩ := hcut
    have HRS := Lib.hid hrs
    have HQ := Lib.hid hq
    have HB := Lib.hid hb
    have HZ := Lib.hid hz
    clear hrs hq hb hz c1' f1
    go_upto_if 26 with fail
    go_cut [5] (fun pv wx => pv = .pointer (some ⟨k, 0, none⟩) ∧ RS W wx k (readF l) ∧ Below W.heap.size W wx ∧ wx.heap[W.heap.size]? = some (.cells #[.string ⟨#[]⟩, .int .i64 0, .slice none 0 0, .slice none 0 0, .int .i64 0, .int .i64 0, .int .i64 0, .slice none 0 0] 64 (0, 0)) ∧ ∃ v1 v2 v3, wx.heap[q]? = some (.cells #[.string (readE l).key, .int .i64 (readE l).code, v1, v2, .int .i64 (readE l).port, .int .i64 (readE l).life, .int .i64 (readE l).exp, v3] 64 (0, 0)) ∧
      wx.ownsRow W.heap.size 9 1 v1 (readE l).names.length ((readE l).names.map Value.string) ∧ wx.ownsRow W.heap.size 9 1 v2 (readE l).addrs.length ((readE l).addrs.map Value.string) ∧ wx.ownsRow W.heap.size 120 2 v3 (readE l).deps.length ((readE l).deps.flatMap fun d => [.string d.1, .int .i64 d.2]))
    case first =>
      rcases (show K = 1 ∨ K ≠ 1 by omega) with hK1 | hK1
      · have b0 : ((K : Int) == 1) = true := by simp [hK1]
        have hE : readE l = ⟨bs (q2 l).1, (q4 l).1, (q9 l).1.map bs, (q10 l).1.map bs, (q5 l).1, (q7 l).1, (q8 l).1, (q12 l).1⟩ := by unfold readE; rw [if_pos (by rw [HKK.out]; exact hK1)]
        have hF : readF l = (q12 l).2 := by unfold readF; rw [if_pos (by rw [HKK.out]; exact hK1)]
        have HE := Lib.hid hE
        have HF := Lib.hid hF
        have HN1 := Lib.hid (num_to wc W k (q3 l) (q4 l).2 (q4 l).1 rfl HB.out HRS.out)
        clear hE hF hK1
        go_upto_region 7 with (first
          | (go_at_call 62; ((with_reducible refine HN1.out.mono ?_); rintro e w1 ⟨rfl, h1, hb1, hk1⟩); have H1 := Lib.hid h1; have HB1 := Lib.hid hb1; have HZ1 := Lib.hid (hk1.blk HZ.out hzk); have HQ1 := Lib.hid (hk1.blk HQ.out hqk); clear h1 hb1 hk1)
          | (go_at_call 62; refine (num_to w1 W k (q4 l).2 (q5 l).2 (q5 l).1 rfl HB1.out H1.out).mono ?_; rintro e w2 ⟨rfl, h2, hb2, hk2⟩; have H2 := Lib.hid h2; have HB2 := Lib.hid hb2; have HZ2 := Lib.hid (hk2.blk HZ1.out hzk); have HQ2 := Lib.hid (hk2.blk HQ1.out hqk); clear h2 hb2 hk2)
          | fail)
        obtain ⟨_, _, c2, hf⟩ := rs_facts H2.out
        have f2 := hf 2
        clear hf
        go_cut [8, 9] (fun v8 v9 wx => v8 = .int .i64 (q4 l).1 ∧ v9 = .int .i64 (q5 l).1 ∧ RS W wx k (q6 l) ∧ Below W.heap.size W wx ∧ wx.heap[q]? = some (.cells #[.string (bs (q2 l).1), .int .i64 0, .slice none 0 0, .slice none 0 0, .int .i64 0, .int .i64 0, .int .i64 0, .slice none 0 0] 64 (0, 0)) ∧ wx.heap[W.heap.size]? = some (.cells #[.string ⟨#[]⟩, .int .i64 0, .slice none 0 0, .slice none 0 0, .int .i64 0, .int .i64 0, .int .i64 0, .slice none 0 0] 64 (0, 0)))
        case first =>
          have hq6 : ∀ b, b = ((q5 l).2.bad || decide (65535 < (q4 l).1) || decide (65535 < (q5 l).1)) → (⟨(q5 l).2.b, (q5 l).2.L, b⟩ : Rd) = q6 l := fun b hb => by rw [hb]; rfl
          have HQ6 := Lib.hid hq6
          clear hq6
          generalize hb1 : decide (65535 < (q4 l).1) = b1 at *
          generalize hb2 : decide (65535 < (q5 l).1) = b2 at *
          generalize hb3 : (q5 l).2.bad = b3 at *
          cases b1 <;> cases b2 <;> cases b3
          all_goals
            go_wp2_with fail
            go_meet
            exact ⟨rfl, rfl, by have := rs_bad H2.out; rw [← HQ6.out _ rfl]; exact this _, HB2.out.setCell hk0 _, lb.blk_other HQ2.out hqk, lb.blk_other HZ2.out hzk⟩
        case rest =>
        obtain ⟨rfl, rfl, hrs, hb, hq, hz⟩ := hcut
        have HRS := Lib.hid hrs
        have HB := Lib.hid hb
        have HQ := Lib.hid hq
        have HZ := Lib.hid hz
        have hfq := ebf hq rfl
        have e1 : wc.cell? ⟨q, 1, none⟩ = _ := blk_cell hq
        have e4 : wc.cell? ⟨q, 4, none⟩ = _ := blk_cell hq
        simp only [List.getElem?_toArray, List.getElem?_cons_succ, List.getElem?_cons_zero] at e1 e4
        have y1 := hfq 1
        have y4 := hfq 4
        clear hrs hb hq hz hfq c2 f2
        go_upto_region 8 with fail
        have hWq : W.heap.size ≤ q := by omega
        go_cut [7] (fun pv wx => pv = .pointer (some ⟨q, 0, none⟩) ∧ RS W wx k (q6 l) ∧ Below W.heap.size W wx ∧ wx.heap[q]? = some (.cells #[.string (bs (q2 l).1), .int .i64 (q4 l).1, .slice none 0 0, .slice none 0 0, .int .i64 (q5 l).1, .int .i64 0, .int .i64 0, .slice none 0 0] 64 (0, 0)) ∧ wx.heap[W.heap.size]? = some (.cells #[.string ⟨#[]⟩, .int .i64 0, .slice none 0 0, .slice none 0 0, .int .i64 0, .int .i64 0, .int .i64 0, .slice none 0 0] 64 (0, 0)))
        case first =>
          go_wp2_with fail
          go_meet
          exact ⟨rfl, (HRS.out.set_other (by omega)).set_other (by omega), (HB.out.setCell hWq _).setCell hWq _, lb.blk_set (lb.blk_set HQ.out), lb.blk_other (lb.blk_other HZ.out hzq) hzq⟩
        case rest =>
        obtain ⟨rfl, hrs, hb, hq, hz⟩ := hcut
        have HRS := Lib.hid hrs
        have HB := Lib.hid hb
        have HQ := Lib.hid hq
        have HZ := Lib.hid hz
        clear hrs hb hq hz e1 e4 y1 y4
        have HN7 := Lib.hid (num_to wc W k (q6 l) (q7 l).2 (q7 l).1 rfl HB.out HRS.out)
        go_upto_region 9 with fail
        go_cut [7] (fun pv wx => pv = .pointer (some ⟨q, 0, none⟩) ∧ RS W wx k (q8 l).2 ∧ Below W.heap.size W wx ∧ wx.heap[q]? = some (.cells #[.string (bs (q2 l).1), .int .i64 (q4 l).1, .slice none 0 0, .slice none 0 0, .int .i64 (q5 l).1, .int .i64 (q7 l).1, .int .i64 (q8 l).1, .slice none 0 0] 64 (0, 0)) ∧ wx.heap[W.heap.size]? = some (.cells #[.string ⟨#[]⟩, .int .i64 0, .slice none 0 0, .slice none 0 0, .int .i64 0, .int .i64 0, .int .i64 0, .slice none 0 0] 64 (0, 0)))
        case first =>
          go_wp2_with (first
            | (go_at_call 62; ((with_reducible refine HN7.out.mono ?_); rintro e w5 ⟨rfl, h1, hb1, hk1⟩); have H5 := Lib.hid h1; have HB5 := Lib.hid hb1; have HZ5 := Lib.hid (hk1.blk HZ.out hzk); have HQ5 := Lib.hid (hk1.blk HQ.out hqk); clear h1 hb1 hk1)
            | (go_at_call 62; refine (num_to w5 W k (q7 l).2 (q8 l).2 (q8 l).1 rfl HB5.out H5.out).mono ?_; rintro e w6 ⟨rfl, h2, hb2, hk2⟩; have H6 := Lib.hid h2; have HB6 := Lib.hid hb2; have HZ6 := Lib.hid (hk2.blk HZ5.out hzk); have hq6 := hk2.blk HQ5.out hqk; have HQ6 := Lib.hid hq6; have hfq := ebf hq6 rfl; have e5 : w6.cell? ⟨q, 5, none⟩ = _ := blk_cell hq6; have e6 : w6.cell? ⟨q, 6, none⟩ = _ := blk_cell hq6; simp only [List.getElem?_toArray, List.getElem?_cons_succ, List.getElem?_cons_zero] at e5 e6; have y5 := hfq 5; have y6 := hfq 6; clear h2 hb2 hk2 hq6 hfq)
            | fail)
          go_meet
          exact ⟨rfl, (H6.out.set_other (by omega)).set_other (by omega), (HB6.out.setCell hWq _).setCell hWq _, lb.blk_set (lb.blk_set HQ6.out), lb.blk_other (lb.blk_other HZ6.out hzq) hzq⟩
        case rest =>
        obtain ⟨rfl, hrs, hb, hq, hz⟩ := hcut
        have HRS := Lib.hid hrs
        have HB := Lib.hid hb
        have HQ := Lib.hid hq
        have HZ := Lib.hid hz
        clear hrs hb hq hz
        have hL8 : (q8 l).2.L = 0 := by
          have a1 : (q8 l).2.L = (q7 l).2.L := rNum_L _
          have a2 : (q7 l).2.L = (q6 l).L := rNum_L _
          have a3 : (q6 l).L = (q5 l).2.L := rfl
          have a4 : (q5 l).2.L = (q4 l).2.L := rNum_L _
          have a5 : (q4 l).2.L = (q3 l).L := rNum_L _
          have a6 : (q3 l).L = 0 := rfl
          omega
        have HL9 := Lib.hid (rlist_rs wc W k (q8 l).2 (by omega) HB.out HRS.out)
        go_upto_region 10 with fail
        go_cut [7] (fun pv wx => pv = .pointer (some ⟨q, 0, none⟩) ∧ RS W wx k (q10 l).2 ∧ Below W.heap.size W wx ∧ 0 ≤ (q10 l).2.L ∧ (q10 l).2.L ≤ 34000000 ∧ wx.heap[W.heap.size]? = some (.cells #[.string ⟨#[]⟩, .int .i64 0, .slice none 0 0, .slice none 0 0, .int .i64 0, .int .i64 0, .int .i64 0, .slice none 0 0] 64 (0, 0)) ∧ ∃ v1 v2, wx.heap[q]? = some (.cells #[.string (bs (q2 l).1), .int .i64 (q4 l).1, v1, v2, .int .i64 (q5 l).1, .int .i64 (q7 l).1, .int .i64 (q8 l).1, .slice none 0 0] 64 (0, 0)) ∧ wx.ownsRow W.heap.size 9 1 v1 (q9 l).1.length ((q9 l).1.map lb.sV) ∧ wx.ownsRow W.heap.size 9 1 v2 (q10 l).1.length ((q10 l).1.map lb.sV))
        case first =>
          go_wp2_with (first
            | (go_at_call 63; ((with_reducible refine HL9.out.mono ?_); rintro e w5 ⟨v1, rfl, ho, _, h1, hl1, hl2, hb1, hk1⟩); obtain ⟨av1, cv1, rfl⟩ := lb.own_shape ho; have HO5 := Lib.hid (lb.own_base (B := W.heap.size) ho HB.out.size); have H5 : Hid (RS W w5 k (q9 l).2) := Lib.hid h1; have HL5 : Hid (0 ≤ (q9 l).2.L ∧ (q9 l).2.L ≤ 17000000) := Lib.hid ⟨hl1, by have h := hl2; rw [hL8] at h; exact Int.le_trans h (by omega)⟩; have HB5 := Lib.hid hb1; have HZ5 := Lib.hid (hk1.blk HZ.out hzk); have HQ5 := Lib.hid (hk1.blk HQ.out hqk); clear h1 hb1 hk1 ho hl1 hl2)
            | (go_at_call 63; refine (rlist_rs w5 W k (q9 l).2 (by have := HL5.out; omega) HB5.out H5.out).mono ?_; rintro e w6 ⟨v2, rfl, ho, _, h2, hl1, hl2, hb2, hk2⟩; obtain ⟨av2, cv2, rfl⟩ := lb.own_shape ho; have HO6 := Lib.hid (lb.own_base (B := W.heap.size) ho HB5.out.size); obtain ⟨x0, x1, x2, hrb⟩ := H5.out.rb; have HO56 := Lib.hid (hk2.own hrb (by decide) HO5.out); have H6 : Hid (RS W w6 k (q10 l).2) := Lib.hid h2; have HL6 : Hid (0 ≤ (q10 l).2.L ∧ (q10 l).2.L ≤ 34000000) := Lib.hid ⟨hl1, Int.le_trans hl2 (by have := HL5.out; omega)⟩; have HB6 := Lib.hid hb2; have HZ6 := Lib.hid (hk2.blk HZ5.out hzk); have hq6 := hk2.blk HQ5.out hqk; have HQ6 := Lib.hid hq6; have hfq := ebf hq6 rfl; have e2 : w6.cell? ⟨q, 2, none⟩ = _ := blk_cell hq6; have e3 : w6.cell? ⟨q, 3, none⟩ = _ := blk_cell hq6; simp only [List.getElem?_toArray, List.getElem?_cons_succ, List.getElem?_cons_zero] at e2 e3; have y2 := hfq 2; have y3 := hfq 3; clear h2 hb2 hk2 hq6 hfq ho hl1 hl2 hrb)
            | fail)
          go_meet
          refine ⟨rfl, (H6.out.set_other (by omega)).set_other (by omega), (HB6.out.setCell hWq _).setCell hWq _, HL6.out.1, HL6.out.2, lb.blk_other (lb.blk_other HZ6.out hzq) hzq, _, _, lb.blk_set (lb.blk_set HQ6.out), ?_, ?_⟩
          · exact lb.own_set (lb.own_set HO56.out HQ6.out (by decide) 2) (lb.blk_set HQ6.out) (by decide) 3
          · exact lb.own_set (lb.own_set HO6.out HQ6.out (by decide) 2) (lb.blk_set HQ6.out) (by decide) 3
        case rest =>
        obtain ⟨rfl, hrs, hb, hL1, hL2, hz, v1, v2, hq, ho1, ho2⟩ := hcut
        obtain ⟨n1, hn1⟩ : ∃ n1, (q9 l).1.length = n1 := ⟨_, rfl⟩
        obtain ⟨n2, hn2⟩ : ∃ n2, (q10 l).1.length = n2 := ⟨_, rfl⟩
        have HN9 := Lib.hid hn1
        have HN10 := Lib.hid hn2
        rw [hn1] at ho1
        rw [hn2] at ho2
        obtain ⟨av1, cv1, rfl⟩ := lb.own_shape ho1
        obtain ⟨av2, cv2, rfl⟩ := lb.own_shape ho2
        have HRS := Lib.hid hrs
        have HB := Lib.hid hb
        have HQ := Lib.hid hq
        have HZ := Lib.hid hz
        have HO1 := Lib.hid ho1
        have HO2 := Lib.hid ho2
        clear hrs hb hq hz ho1 ho2 hn1 hn2
        have hND : (q11 l).1 < 256 := rCount_lt _
        have hL11 : (q11 l).2.L = (q10 l).2.L := rCount_L _
        have HC11 : Hid (Calls Try.prog 64 #[.pointer (some ⟨k, 0, none⟩)] wc fun e w' => e = .returned (.int .i64 ((q11 l).1 : Int)) ∧ RS W w' k (q11 l).2 ∧ Below W.heap.size W w' ∧ KR k wc w') := Lib.hid (count_rs wc W k (q10 l).2 HB.out HRS.out)
        obtain ⟨ND, hNDe⟩ : ∃ ND, (q11 l).1 = ND := ⟨_, rfl⟩
        have hq12 : q12 l = rD ND (q11 l).2 := by unfold q12; rw [hNDe]
        have HQ12 := Lib.hid hq12
        rw [hNDe] at hND HC11
        clear hNDe hq12
        obtain ⟨i2, hi, hz0, hz1, hz2⟩ := info_parts info_dep
        obtain ⟨x0, x1, x2, hrb⟩ := HRS.out.rb
        go_wp2_with (first
          | (go_at_call 64; refine HC11.out.mono ?_; rintro e w1 ⟨rfl, h1, hb1, hk1⟩; have H1 := Lib.hid h1; have HB1 := Lib.hid hb1; have HZ1 := Lib.hid (hk1.blk HZ.out hzk); have HQ1 := Lib.hid (hk1.blk HQ.out hqk); have HA1 := Lib.hid (hk1.own hrb (by decide) HO1.out); have HA2 := Lib.hid (hk1.own hrb (by decide) HO2.out); clear h1 hb1 hk1)
          | fail)
        clear hrb
        go_loopw [68] (fun iv wr => ∃ (j : Nat) (acc : List (ByteArray × Int)) (r' : Rd) (v3 : Value), j ≤ ND ∧ acc.length ≤ j ∧ iv = .int .i64 (j : Int) ∧ wr.heap[q]? = some (.cells #[.string (bs (q2 l).1), .int .i64 (q4 l).1, (.slice av1 n1 cv1), (.slice av2 n2 cv2), .int .i64 (q5 l).1, .int .i64 (q7 l).1, .int .i64 (q8 l).1, v3] 64 (0, 0)) ∧ wr.ownsRow W.heap.size 120 2 v3 acc.length (acc.flatMap depC) ∧ wr.ownsRow W.heap.size 9 1 (.slice av1 n1 cv1) n1 ((q9 l).1.map lb.sV) ∧ wr.ownsRow W.heap.size 9 1 (.slice av2 n2 cv2) n2 ((q10 l).1.map lb.sV) ∧ RS W wr k r' ∧ 0 ≤ r'.L ∧ r'.L ≤ 34000000 + 65535 * j ∧ Below W.heap.size W wr ∧ wr.heap[W.heap.size]? = some (.cells #[.string ⟨#[]⟩, .int .i64 0, .slice none 0 0, .slice none 0 0, .int .i64 0, .int .i64 0, .int .i64 0, .slice none 0 0] 64 (0, 0)) ∧ rD ND (q11 l).2 = (acc ++ (rD (ND - j) r').1, (rD (ND - j) r').2)) (fun iv _ => ND - (intOf iv).toNat)
        case atStart => exact ⟨0, [], (q11 l).2, .slice none 0 0, by omega, by simp, rfl, HQ1.out, lb.own_nil _ _ _ _, HA1.out, HA2.out, H1.out, by omega, by omega, HB1.out, HZ1.out, by simp⟩
        case round =>
          obtain ⟨j, acc, r', v3, hj1, hacc, rfl, hq, ho3, ho1, ho2, hrs, hrL1, hrL2, hb, hz, hgo⟩ := hrel
          obtain ⟨av3, cv3, rfl⟩ := lb.own_shape ho3
          obtain ⟨_, _, c2, _⟩ := rs_facts hrs
          have HQ := Lib.hid hq
          have HD3 := Lib.hid ho3
          have HA1 := Lib.hid ho1
          have HA2 := Lib.hid ho2
          have HRS := Lib.hid hrs
          have HB := Lib.hid hb
          have HZ := Lib.hid hz
          have HGO := Lib.hid hgo
          have FIN : Hid (rD ND (q11 l).2 = (acc, r') → ∃ v1 v2 v3, wr.heap[q]? = some (.cells #[.string (readE l).key, .int .i64 (readE l).code, v1, v2, .int .i64 (readE l).port, .int .i64 (readE l).life, .int .i64 (readE l).exp, v3] 64 (0, 0)) ∧ wr.ownsRow W.heap.size 9 1 v1 (readE l).names.length ((readE l).names.map Value.string) ∧ wr.ownsRow W.heap.size 9 1 v2 (readE l).addrs.length ((readE l).addrs.map Value.string) ∧ wr.ownsRow W.heap.size 120 2 v3 (readE l).deps.length ((readE l).deps.flatMap fun d => [.string d.1, .int .i64 d.2])) := Lib.hid (fun h => by
            have hd : (q12 l).1 = acc := by rw [HQ12.out, h]
            rw [HE.out]
            refine ⟨_, _, _, HQ.out, ?_, ?_, ?_⟩
            · show wr.ownsRow W.heap.size 9 1 _ ((q9 l).1.map bs).length (((q9 l).1.map bs).map Value.string)
              rw [map_bs, List.length_map, HN9.out]
              exact HA1.out
            · show wr.ownsRow W.heap.size 9 1 _ ((q10 l).1.map bs).length (((q10 l).1.map bs).map Value.string)
              rw [map_bs, List.length_map, HN10.out]
              exact HA2.out
            · show wr.ownsRow W.heap.size 120 2 _ (q12 l).1.length ((q12 l).1.flatMap depC)
              rw [hd]
              exact HD3.out)
          have FRS : Hid (rD ND (q11 l).2 = (acc, r') → RS W wr k (readF l)) := Lib.hid (fun h => by rw [HF.out, HQ12.out, h]; exact HRS.out)
          clear hq ho3 ho1 ho2 hrs hb hz hgo
          rcases (show j < ND ∨ j = ND by omega) with hlt | rfl
          · cases hbad : r'.bad
            · rw [hbad] at c2
              obtain ⟨⟨s, r2⟩, htx⟩ : ∃ x, rText r' = x := ⟨_, rfl⟩
              obtain ⟨⟨z, r3⟩, hnx⟩ : ∃ x, rNum r2 = x := ⟨_, rfl⟩
              have hgo2 : rD ND (q11 l).2 = ((acc ++ [(bs s, z)]) ++ (rD (ND - (j + 1)) r3).1, (rD (ND - (j + 1)) r3).2) := by
                rw [HGO.out, show ND - j = (ND - (j + 1)) + 1 by omega, rD, if_neg (by rw [hbad]; decide), htx]
                simp only [hnx]
                simp
              have hl2 := rText_L r' hrL1
              rw [htx] at hl2
              have hl3 : r3.L = r2.L := by have := rNum_L r2; rw [hnx] at this; exact this
              simp only at hl2
              have HGO2 := Lib.hid hgo2
              have HTX := Lib.hid (text_to wr.drew W k r' r2 s htx ⟨hrL1, by omega⟩ HB.out.drew (show RS W wr.drew k r' from HRS.out))
              have HNX := Lib.hid hnx
              obtain ⟨y0, y1, y2, hrb0⟩ := HRS.out.rb
              have hrb : RB wr.drew k y0 y1 y2 := hrb0
              have HRB := Lib.hid hrb
              have e7 : wr.cell? ⟨q, 7, none⟩ = _ := blk_cell HQ.out
              simp only [List.getElem?_toArray, List.getElem?_cons_succ, List.getElem?_cons_zero] at e7
              clear hgo2 htx hnx hrb hrb0 hbad HGO FIN FRS
              go_upto_region 14 with fail
              go_region_law (first
                | (refine lb.scall rfl 61 #[.pointer (some ⟨k, 0, none⟩)] wr.drew (run_call1 _ (.tmp 76) _ _ _ Try.func61 (by kernel_rfl) rfl rfl (by simp [Act.eval, Act.put])) HTX.out ?_; rintro e w2 ⟨rfl, h2, hb2, hk2⟩; refine ⟨_, rfl, ?_⟩; have H2 := Lib.hid h2; have HB2 := Lib.hid hb2; have hq2 := hk2.blk (show wr.drew.heap[q]? = _ from HQ.out) hqk; have HQ2 := Lib.hid hq2; have HZ2 := Lib.hid (hk2.blk (show wr.drew.heap[W.heap.size]? = _ from HZ.out) hzk); have HD32 := Lib.hid (hk2.own HRB.out (by decide) HD3.out.drew); have HA12 := Lib.hid (hk2.own HRB.out (by decide) HA1.out.drew); have HA22 := Lib.hid (hk2.own HRB.out (by decide) HA2.out.drew); have e72 : w2.cell? ⟨q, 7, none⟩ = _ := blk_cell hq2; simp only [List.getElem?_toArray, List.getElem?_cons_succ, List.getElem?_cons_zero] at e72; clear h2 hb2 hk2 hq2)
                | (refine lb.scall rfl 62 #[.pointer (some ⟨k, 0, none⟩)] w2 (run_call1 _ (.tmp 78) _ _ _ Try.func62 (by kernel_rfl) rfl rfl (by simp [Act.eval, Act.put])) (num_to w2 W k r2 r3 z HNX.out HB2.out H2.out) ?_; rintro e w3 ⟨rfl, h3, hb3, hk3⟩; refine ⟨_, rfl, ?_⟩; obtain ⟨x5, x6, x7, hrb2⟩ := H2.out.rb; have H3 := Lib.hid h3; have HB3 := Lib.hid hb3; have hq3 := hk3.blk HQ2.out hqk; have HQ3 := Lib.hid hq3; have hq3lt : q < w3.heap.size := (Array.getElem?_eq_some_iff.1 hq3).1; have HZ3 := Lib.hid (hk3.blk HZ2.out hzk); have HD33 := Lib.hid (hk3.own hrb2 (by decide) HD32.out); have HA13 := Lib.hid (hk3.own hrb2 (by decide) HA12.out); have HA23 := Lib.hid (hk3.own hrb2 (by decide) HA22.out); have e73 : w3.cell? ⟨q, 7, none⟩ = _ := blk_cell hq3; simp only [List.getElem?_toArray, List.getElem?_cons_succ, List.getElem?_cons_zero] at e73; clear h3 hb3 hk3 hq3 hrb2)
                | (refine lb.sapp w3.heap.size rfl (.tmp 75) (.tmp 81) 62 rfl 120 i2 (.agg #[.string ⟨#[]⟩, .int .i64 0]) 2 24 Try.underlying62 hi hz0 hz1 hz2 rfl (by decide) W (w3.alloc (.cells #[.string (bs s), .int .i64 z] 120)) (.slice av3 acc.length cv3) acc.length (acc.flatMap depC) [.string (bs s), .int .i64 z] (by simp [Act.eval, Act.put]) (HD33.out.alloc _) (HB3.out.alloc HB3.out.size _) (by simp [Act.eval, Act.put]) rfl (fun i u hu => (lb.cell_new _ _ _ _ _ i rfl).trans ((List.getElem?_toArray ..).trans hu)) (by intro u hu; simp at hu; rcases hu with rfl | rfl <;> rfl) (by omega) (by omega) ?_; intro v' w' hown' hb' hkb; obtain ⟨a', cp', rfl⟩ := lb.own_shape hown'; have hq' := lb.blk_kept (lb.blk_alloc HQ3.out) (by decide) hkb; have HQ' := Lib.hid hq'; have c7' : w'.cell? ⟨q, 7, none⟩ = some (.slice av3 acc.length cv3) := (by simp [World.cell?, hq']); have f7' : w'.frozen? ⟨q, 7, none⟩ = false := (by simp [World.frozen?, hq']); have HD' := Lib.hid hown'; have HB' := Lib.hid hb'; have HA1' := Lib.hid (hkb.own (HA13.out.alloc _) (by decide)); have HA2' := Lib.hid (hkb.own (HA23.out.alloc _) (by decide)); have H' := Lib.hid ((H3.out.alloc _).kept_but hkb (by decide)); have HZ' := Lib.hid (lb.blk_kept (lb.blk_alloc HZ3.out) (by decide) hkb); clear hown' hb' hkb hq'))
              all_goals
                go_wp2_with fail
                refine ⟨⟨j + 1, acc ++ [(bs s, z)], r3, .slice a' (acc.length + 1) cp', by omega, by simp; omega, by go_num, lb.blk_set HQ'.out, ?_, lb.own_set HA1'.out HQ'.out (by decide) 7, lb.own_set HA2'.out HQ'.out (by decide) 7, H'.out.set_other (by omega), by omega, by omega, HB'.out.setCell hWq _, lb.blk_other HZ'.out hzq, HGO2.out⟩, by simp [intOf]; omega⟩
                have := lb.own_set (x := .slice a' (acc.length + 1) cp') HD'.out HQ'.out (by decide) 7
                exact lb.own_cast this (by simp [depC]) (by simp)
            · rw [hbad] at c2
              have hend : rD ND (q11 l).2 = (acc, r') := by
                rw [HGO.out, show ND - j = (ND - (j + 1)) + 1 by omega, rD, if_pos hbad]
                simp
              have F1 := Lib.hid (FIN.out hend)
              have F2 := Lib.hid (FRS.out hend)
              clear hend hbad FIN FRS HGO
              go_wp2_with fail
              go_meet
              exact ⟨rfl, F2.out, HB.out, HZ.out, F1.out⟩
          · have hend : rD j (q11 l).2 = (acc, r') := by
              rw [HGO.out, Nat.sub_self]
              simp [rD]
            have F1 := Lib.hid (FIN.out hend)
            have F2 := Lib.hid (FRS.out hend)
            clear hend FIN FRS HGO
            go_wp2_with fail
            go_meet
            exact ⟨rfl, F2.out, HB.out, HZ.out, F1.out⟩
      · have b0 : ((K : Int) == 1) = false := by simp; omega
        have hE : readE l = ⟨bs (q2 l).1, 0, [], [], 0, 0, 0, []⟩ := by unfold readE; rw [if_neg (by rw [HKK.out]; exact hK1)]
        have hF : readF l = q3 l := by unfold readF; rw [if_neg (by rw [HKK.out]; exact hK1)]
        have HE := Lib.hid hE
        have HF := Lib.hid hF
        clear hE hF hK1
        go_wp2_with fail
        go_meet
        rw [HE.out, HF.out]
        exact ⟨rfl, HRS.out, HB.out, HZ.out, _, _, _, HQ.out, lb.own_nil _ _ _ _, lb.own_nil _ _ _ _, lb.own_nil _ _ _ _⟩
    case rest =>
    obtain ⟨rfl, hrs, hb, hz, v1, v2, v3, hq, ho1, ho2, ho3⟩ := hcut
    obtain ⟨h0, adF, cF, hrb, hsF⟩ := hrs
    have c0 := hrb.c0
    have c2 := hrb.c2
    have hfz := ebf hz rfl
    have HZ2 := Lib.hid hz
    have z0 : wc.cell? ⟨W.heap.size, 0, none⟩ = _ := blk_cell hz
    have z1 : wc.cell? ⟨W.heap.size, 1, none⟩ = _ := blk_cell hz
    have z2 : wc.cell? ⟨W.heap.size, 2, none⟩ = _ := blk_cell hz
    have z3 : wc.cell? ⟨W.heap.size, 3, none⟩ = _ := blk_cell hz
    have z4 : wc.cell? ⟨W.heap.size, 4, none⟩ = _ := blk_cell hz
    have z5 : wc.cell? ⟨W.heap.size, 5, none⟩ = _ := blk_cell hz
    have z6 : wc.cell? ⟨W.heap.size, 6, none⟩ = _ := blk_cell hz
    have z7 : wc.cell? ⟨W.heap.size, 7, none⟩ = _ := blk_cell hz
    simp only [List.getElem?_toArray, List.getElem?_cons_succ, List.getElem?_cons_zero] at z0 z1 z2 z3 z4 z5 z6 z7
    have y0 := hfz 0
    have y1 := hfz 1
    have y2 := hfz 2
    have y3 := hfz 3
    have y4 := hfz 4
    have y5 := hfz 5
    have y6 := hfz 6
    have y7 := hfz 7
    obtain ⟨av1, cv1, rfl⟩ := lb.own_shape ho1
    obtain ⟨av2, cv2, rfl⟩ := lb.own_shape ho2
    obtain ⟨av3, cv3, rfl⟩ := lb.own_shape ho3
    have HQ2 := Lib.hid hq
    have HO1 := Lib.hid ho1
    have HO2 := Lib.hid ho2
    have HO3 := Lib.hid ho3
    have HB2 := Lib.hid hb
    have hRO : readOk l = (!(readF l).bad && decide ((readF l).b.length = 0) && (decide (K = 1) || decide (K = 2))) := by unfold readOk; rw [HKK.out]
    have HRO := Lib.hid hRO
    have hKd : decide (kindL l = 1) = decide (K = 1) := by rw [HKK.out]
    have HKD := Lib.hid hKd
    clear hq ho1 ho2 ho3 hb hz hrb hsF hfz hRO hKd
    generalize (readF l).bad = bd at *
    generalize (readF l).b.length = ln at *
    have BAD : Hid (readOk l = false → ∀ w, w = put8 wc W.heap.size (.string ⟨#[]⟩) (.int .i64 0) (.slice none 0 0) (.slice none 0 0) (.int .i64 0) (.int .i64 0) (.int .i64 0) (.slice none 0 0) →
        w.heap[W.heap.size]? = some (.cells #[.string ⟨#[]⟩, .int .i64 0, .slice none 0 0, .slice none 0 0, .int .i64 0, .int .i64 0, .int .i64 0, .slice none 0 0] 64 (0, 0)) ∧ ReadPost W l (.returned (.tuple #[.agg #[.string ⟨#[]⟩, .int .i64 0, .slice none 0 0, .slice none 0 0, .int .i64 0, .int .i64 0, .int .i64 0, .slice none 0 0], .bool false, .iface 32 (.int .i64 10)])) w ∧ Below W.heap.size W w) := Lib.hid (fun h w hw => by subst hw; exact ⟨put8_heap HZ2.out .., .inl ⟨h, rfl⟩, put8_below HB2.out (Nat.le_refl _) ..⟩)
    rcases (show (bd = true ∨ 0 < ln ∨ (K ≠ 1 ∧ K ≠ 2)) ∨ (bd = false ∧ ln = 0 ∧ (K = 1 ∨ K = 2)) by cases bd <;> simp <;> omega) with hx | ⟨rfl, rfl, hx⟩
    · have HN : Hid (readOk l = false) := Lib.hid (by
        rw [HRO.out]
        rcases hx with h | h | ⟨h, h'⟩
        · simp [h]
        · have : decide (ln = 0) = false := decide_eq_false (by omega)
          simp [this]
        · simp [h, h'])
      have F := Lib.hid (BAD.out HN.out _ rfl)
      rcases (show bd = true ∨ (bd = false ∧ 0 < ln) ∨ (bd = false ∧ ln = 0 ∧ K ≠ 1 ∧ K ≠ 2) by cases bd <;> simp at hx ⊢ <;> omega) with rfl | ⟨rfl, h⟩ | ⟨rfl, rfl, h, h'⟩
      · clear hx
        go_wp2_with fail
        refine bodyPost_ret (results_cell3 (p := 2) (a := 3) (b := 4) rfl _ _ W.heap.size 64 _ (0, 0) _ (by rfl) F.out.1 Try.underlying64 rfl size_entry) rfl F.out.2
      · clear hx
        go_wp2_with fail
        refine bodyPost_ret (results_cell3 (p := 2) (a := 3) (b := 4) rfl _ _ W.heap.size 64 _ (0, 0) _ (by rfl) F.out.1 Try.underlying64 rfl size_entry) rfl F.out.2
      · have b1 : ((K : Int) != 1) = true := by simp; omega
        have b2 : ((K : Int) != 2) = true := by simp; omega
        clear hx h h'
        go_wp2_with fail
        refine bodyPost_ret (results_cell3 (p := 2) (a := 3) (b := 4) rfl _ _ W.heap.size 64 _ (0, 0) _ (by rfl) F.out.1 Try.underlying64 rfl size_entry) rfl F.out.2
    · have HN : Hid (readOk l = true) := Lib.hid (by rw [HRO.out]; rcases hx with h | h <;> simp [h])
      have e0 : wc.cell? ⟨q, 0, none⟩ = _ := blk_cell HQ2.out
      have e1 : wc.cell? ⟨q, 1, none⟩ = _ := blk_cell HQ2.out
      have e2 : wc.cell? ⟨q, 2, none⟩ = _ := blk_cell HQ2.out
      have e3 : wc.cell? ⟨q, 3, none⟩ = _ := blk_cell HQ2.out
      have e4 : wc.cell? ⟨q, 4, none⟩ = _ := blk_cell HQ2.out
      have e5 : wc.cell? ⟨q, 5, none⟩ = _ := blk_cell HQ2.out
      have e6 : wc.cell? ⟨q, 6, none⟩ = _ := blk_cell HQ2.out
      have e7 : wc.cell? ⟨q, 7, none⟩ = _ := blk_cell HQ2.out
      simp only [List.getElem?_toArray, List.getElem?_cons_succ, List.getElem?_cons_zero] at e0 e1 e2 e3 e4 e5 e6 e7
      have F : Hid (∀ w, w = put8 wc W.heap.size (.string (readE l).key) (.int .i64 (readE l).code) (.slice av1 (readE l).names.length cv1) (.slice av2 (readE l).addrs.length cv2) (.int .i64 (readE l).port) (.int .i64 (readE l).life) (.int .i64 (readE l).exp) (.slice av3 (readE l).deps.length cv3) →
          w.heap[W.heap.size]? = some (.cells #[.string (readE l).key, .int .i64 (readE l).code, .slice av1 (readE l).names.length cv1, .slice av2 (readE l).addrs.length cv2, .int .i64 (readE l).port, .int .i64 (readE l).life, .int .i64 (readE l).exp, .slice av3 (readE l).deps.length cv3] 64 (0, 0)) ∧ ReadPost W l (.returned (.tuple #[.agg #[.string (readE l).key, .int .i64 (readE l).code, .slice av1 (readE l).names.length cv1, .slice av2 (readE l).addrs.length cv2, .int .i64 (readE l).port, .int .i64 (readE l).life, .int .i64 (readE l).exp, .slice av3 (readE l).deps.length cv3], .bool (decide (K = 1)), .nilIface])) w ∧ Below W.heap.size W w) := Lib.hid (fun w hw => by
            subst hw
            refine ⟨put8_heap HZ2.out .., .inr ⟨HN.out, _, _, _, by rw [HKD.out], put8_own HO1.out HZ2.out (by decide) .., put8_own HO2.out HZ2.out (by decide) .., put8_own HO3.out HZ2.out (by decide) ..⟩, put8_below HB2.out (Nat.le_refl _) ..⟩)
      have F2 := Lib.hid (F.out _ rfl)
      rcases hx with rfl | rfl
      · go_wp2_with fail
        refine bodyPost_ret (results_cell3 (p := 2) (a := 3) (b := 4) rfl _ _ W.heap.size 64 _ (0, 0) _ (by rfl) F2.out.1 Try.underlying64 rfl size_entry) rfl F2.out.2
      · go_wp2_with fail
        refine bodyPost_ret (results_cell3 (p := 2) (a := 3) (b := 4) rfl _ _ W.heap.size 64 _ (0, 0) _ (by rfl) F2.out.1 Try.underlying64 rfl size_entry) rfl F2.out.2
end Go.Proofs.Ytgfkgoiaoglhnaa.jr
