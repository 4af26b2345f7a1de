/- What the evaluator says, the model does: operations, code, functions. -/
import Derived.Test.YtkjjidmchepjcaaDoorVB
import Derived.Laws.BytesString
import Derived.Lib.UnsafeStr
import GoSem.Instr.MapUpdate
import GoSem.Instr.TypeAssert
import Derived.MapKept
import GoSem.Instr.Range
import GoSem.Instr.Next
import Derived.LoopN
import Derived.Scope
set_option linter.unusedVariables false
set_option linter.unusedSimpArgs false
namespace Vai
open Go Go.RowKit

variable {P : Program} {G : Sym} {μ : Mu} {N0 : Nat} {σ : Mem} {w : World}

theorem zeroCells_size (z : Array Value) (n : Nat) : (Builtin.zeroCells z n).toList.length = n * z.size := by simp [Builtin.zeroCells]

theorem realloc_run (P : Program) {σ1 : Mem} (h : Rel G μ N0 σ1 w) {elem : TypeId} {size need newCap : Nat} {cells : List Value} {anc : List Nat} {b : Addr} {σ' : Mem} {z : Value}
    (hn : σ1.newGrown elem size cells anc = some (b, σ')) (hw : wfL σ1.nxt cells) (ha : ∀ j ∈ anc, j < σ1.nxt) (hl : cells.length = need * size) (hcap : need ≤ newCap) (hz : (vcells z).length = size) (X : Array Value)
    (hX : X = ⟨cells.map (conc μ)⟩ ++ Builtin.zeroCells z.cells (newCap - need)) :
    ∃ μ' w', (Go.newRow elem X).run P w = .ok (μ'.addr b) w' ∧ Rel G μ' N0 σ' w' ∧ Ext μ σ1 w μ' σ' w' ∧ (μ' b.block).ecap = newCap ∧ b.block < σ'.nxt := by
  have hzs : z.cells.size = size := by rw [vcells_eq]; exact hz
  obtain ⟨μ', e1, e2, e3, e4, e5⟩ := h.newGrown (rest := (Builtin.zeroCells z.cells (newCap - need)).toList) (ec := newCap) hn hw ha (by rw [hl]; exact Nat.mul_le_mul_right _ hcap)
    (by rw [hl, zeroCells_size, hzs, ← Nat.add_mul]; congr 1; omega) (0, 0) (fun _ _ => by simp)
  have hXX : X = ⟨cells.map (conc μ) ++ (Builtin.zeroCells z.cells (newCap - need)).toList⟩ := by
    rw [hX]; apply Array.ext'; simp
  refine ⟨μ', _, ?_, e1, e2, e5, e4⟩
  rw [hXX, e3]
  simp [Go.newRow]

theorem cut_append (need cap : Nat) (elem : TypeId) (t : Nat) : need ≤ Question.cut (.appendCap need cap elem) t := by
  simp only [Question.cut]; omega

/-- The realloc way of the model's append. -/
theorem tail_realloc (P : Program) (h : Rel G μ N0 σ w) {σ1 : Mem} (h1 : Rel G μ N0 σ1 w) (hE : Ext μ σ w μ σ1 w) (hnx : σ1.nxt = σ.nxt) {elem : TypeId} {size bytes sLen sCap n : Nat} {base : Option Addr} {old new : List Value} {anc : List Nat} {b : Addr} {σ' : Mem} {z : Value} {appended : Sem (Array Value)}
    (hroom : ¬ sLen + n ≤ sCap) (hn : σ1.newGrown elem size (old ++ new) anc = some (b, σ')) (hwo : wfL σ.nxt old) (hwn : wfL σ.nxt new) (ha : ∀ j ∈ anc, j < σ.nxt)
    (hlo : old.length = sLen * size) (hln : new.length = n * size) (hz : zeroOf P elem = some z) (hzl : (vcells z).length = size)
    (hold : ∀ w1, Rel G μ N0 σ w1 → (Builtin.firstCells size sLen (.slice base sLen sCap)).run P w1 = .ok ⟨old.map (conc μ)⟩ w1)
    (happ : ∀ w1, Rel G μ N0 σ w1 → appended.run P w1 = .ok ⟨new.map (conc μ)⟩ w1) :
    ∃ μ' w', (appTail elem size base sLen sCap n bytes appended).run P w = .ok (.slice (some (μ'.addr b)) (sLen + n) ((μ' b.block).ecap)) w' ∧ Rel G μ' N0 σ' w' ∧ Ext μ σ w μ' σ' w' ∧ b.block < σ'.nxt := by
  have hwf : wfL σ1.nxt (old ++ new) := by
    rw [hnx]
    exact (wfL_iff _ _).2 fun v hv => by
      rcases List.mem_append.1 hv with h2 | h2
      · exact (wfL_iff _ _).1 hwo v h2
      · exact (wfL_iff _ _).1 hwn v h2
  obtain ⟨μ', w', e1, e2, e3, e4, e5⟩ := realloc_run P h1.drew (z := z) (need := sLen + n) (newCap := Question.cut (.appendCap (sLen + n) sCap elem) (w.tape w.drawn (.appendCap (sLen + n) sCap elem))) hn hwf (by rw [hnx]; exact ha) (by rw [List.length_append, hlo, hln, Nat.add_mul]) (cut_append _ _ _ _) hzl
    (⟨old.map (conc μ)⟩ ++ ⟨new.map (conc μ)⟩ ++ Builtin.zeroCells z.cells (Question.cut (.appendCap (sLen + n) sCap elem) (w.tape w.drawn (.appendCap (sLen + n) sCap elem)) - (sLen + n)))
    (by apply Array.ext'; simp)
  refine ⟨μ', w', ?_, e2, hE.trans ((Ext.drew μ σ1 w).trans e3), e5⟩
  unfold appTail
  rw [if_neg hroom]
  have hf : (Question.appendCap (sLen + n) sCap elem).forced = false := rfl
  simp only [Sem.run_bind, run_choose, hf, Bool.false_eq_true, if_false, Result.andThen_ok, run_askRoom, World.drew_eq, hold _ h.drew, happ _ h.drew, rZero hz, e1, Sem.run_pure, e4]

theorem HALF_lt : HALF < HUGE := by rw [HALF_val, HUGE_val]; decide
theorem cap_huge (μ : Mu) (b : Nat) : μ.cap b HUGE = (μ b).ecap := by
  unfold Mu.cap; rw [if_neg (by have := HALF_lt; omega)]; simp

theorem appDo_ok (P : Program) (h : Rel G μ N0 σ w) {elem : TypeId} {size bytes sLen sCap n : Nat} {base : Option Addr} {new : List Value} {r : NX × Mem} {z : Value} {appended : Sem (Array Value)}
    (hb : appDo σ elem size base sLen sCap n new = some r) (hx : wf σ.nxt (.slice base sLen sCap)) (hwn : wfL σ.nxt new) (hone : ∀ v ∈ new, oneCell v = true)
    (hln : new.length = n * size) (hpos : 0 < size) (hz : zeroOf P elem = some z) (hzl : (vcells z).length = size) (hlim : sLen + n ≤ 1099511627776)
    (happ : ∀ w1, Rel G μ N0 σ w1 → appended.run P w1 = .ok ⟨new.map (conc μ)⟩ w1) :
    ∃ μ' w' v base' cap', conc μ (.slice base sLen sCap) = .slice base' sLen cap' ∧ r.1 = .val v ∧ (appTail elem size base' sLen cap' n bytes appended).run P w = .ok (conc μ' v) w' ∧ Rel G μ' N0 r.2 w' ∧ Ext μ σ w μ' r.2 w' ∧ wf r.2.nxt v := by
  have hH := HALF_val
  have hU := HUGE_val
  unfold appDo at hb
  cases base with
  | none =>
    simp only [natBeq, cond_decide] at hb
    by_cases hc : sCap = 0 ∧ sLen = 0
    · obtain ⟨rfl, rfl⟩ := hc
      simp only [decide_true, Bool.and_self, cond_true] at hb
      by_cases hn : n = 0
      · subst hn
        rw [if_pos rfl] at hb; cases hb
        have : new = [] := List.eq_nil_of_length_eq_zero (by rw [hln]; simp)
        subst this
        refine ⟨μ, w, _, none, 0, rfl, rfl, ?_, h, Ext.refl _ _ _, trivial⟩
        unfold appTail
        rw [if_pos (by omega)]
        simp only [Sem.run_bind, happ w h, Result.andThen_ok, Sem.run_pure]
        rfl
      · rw [if_neg hn] at hb
        cases hg : σ.newGrown elem size new [] with
        | none => rw [hg] at hb; cases hb
        | some q =>
          obtain ⟨a, σ'⟩ := q
          rw [hg] at hb; cases hb
          obtain ⟨μ', w', e1, e2, e3, e4⟩ := tail_realloc P h h (Ext.refl _ _ _) rfl (sLen := 0) (sCap := 0) (bytes := bytes) (base := none) (old := []) (by omega) (by simpa using hg) trivial hwn (by simp) (by simp) hln hz hzl (fun w1 _ => rfl) happ
          refine ⟨μ', w', _, none, 0, rfl, rfl, ?_, e2, e3, e4⟩
          rw [e1, conc_slice, cap_huge]; simp
    · exfalso
      rcases Classical.not_and_iff_not_or_not.1 hc with h1 | h1 <;> simp [h1] at hb
  | some a =>
    simp only [natBlt, cond_decide] at hb
    by_cases hcap : sCap < HALF
    · rw [if_pos hcap] at hb
      simp only [natBle, cond_decide] at hb
      refine (?_ : ∃ μ' w' v, r.1 = .val v ∧ (appTail elem size (some (μ.addr a)) sLen sCap n bytes appended).run P w = .ok (conc μ' v) w' ∧ Rel G μ' N0 r.2 w' ∧ Ext μ σ w μ' r.2 w' ∧ wf r.2.nxt v).elim fun μ' hh => hh.elim fun w' hh => hh.elim fun v hh => ⟨μ', w', v, some (μ.addr a), sCap, by rw [conc_slice, cap_small _ _ _ hcap], hh⟩
      by_cases hfit : sLen + n ≤ sCap
      · rw [if_pos hfit] at hb
        cases hsp : a.spot with
        | some q => rw [hsp] at hb; cases hb
        | none =>
        rw [hsp] at hb
        cases hst : Mem.storeL new σ (a.add (sLen * size)) 0 with
        | none => rw [hst] at hb; cases hb
        | some σ' =>
          rw [hst] at hb; cases hb
          obtain ⟨w', e1, e2, e3, e4⟩ := Rel.storeL0 (P := P) new h hst hwn
          refine ⟨μ, w', _, rfl, ?_, e2, e3, (show a.block < σ'.nxt by rw [e4]; exact hx)⟩
          unfold appTail
          rw [if_pos hfit]
          simp only [Sem.run_bind, happ w h, Result.andThen_ok, Mu.addr_add _ _ _ hsp, e1, Sem.run_pure, conc_slice, cap_small _ _ _ hcap]
      · rw [if_neg hfit] at hb
        cases hc : σ.cells a (sLen * size) with
        | none => rw [hc] at hb; cases hb
        | some old =>
          rw [hc] at hb; simp only at hb
          cases hg : σ.newGrown elem size (old ++ new) [] with
          | none => rw [hg] at hb; cases hb
          | some q =>
            obtain ⟨b, σ'⟩ := q
            rw [hg] at hb; cases hb
            obtain ⟨μ', w', e1, e2, e3, e4⟩ := tail_realloc P h h (Ext.refl _ _ _) rfl (bytes := bytes) (base := some (μ.addr a)) (sCap := sCap) hfit hg (h.loadCells (P := P) hc).2 hwn (by simp) (Mem.cells_spec hc).1 hln hz hzl
              (fun w1 h1 => (h1.loadCells (P := P) hc).1) happ
            refine ⟨μ', w', _, rfl, ?_, e2, e3, e4⟩
            rw [e1, conc_slice, cap_huge]
    · rw [if_neg hcap] at hb
      cases hsp : a.spot with
      | some q => rw [hsp] at hb; cases hb
      | none =>
        rw [hsp] at hb; (try simp only at hb)
        cases ho : σ.objs.get a.block with
        | none => rw [ho] at hb; cases hb
        | some o =>
          rw [ho] at hb
          cases o with
          | row rr =>
            (try simp only at hb)
            cases hk : rr.kind with
            | own => rw [hk] at hb; cases hb
            | lit => rw [hk] at hb; cases hb
            | ro => rw [hk] at hb; cases hb
            | grown =>
              rw [hk] at hb
              simp only [natBeq, natBle] at hb
              by_cases hcc : rr.esz = size ∧ rr.elem = elem ∧ a.off = (HUGE - sCap) * size ∧ sCap ≤ HUGE ∧ a.off + sLen * size ≤ rr.n
              · obtain ⟨c1, rfl, c3, c4, c5⟩ := hcc
                simp only [c1, ← c3, c4, c5, decide_true, Bool.and_self, cond_true, cond_decide] at hb
                obtain ⟨_, hwf, cc, fr, hr⟩ := h.ob _ _ ho
                have hcp := (hr.cap hk).1
                rw [c1] at hcp
                have hcv : μ.cap a.block sCap = (μ a.block).ecap - (HUGE - sCap) := by unfold Mu.cap; rw [if_neg hcap]
                have hle : ∀ m, a.off + m * size ≤ rr.n → m ≤ (μ a.block).ecap - (HUGE - sCap) := by
                  intro m hm
                  rw [c3] at hm
                  have : ((HUGE - sCap) + m) * size ≤ (μ a.block).ecap * size := by rw [Nat.add_mul]; omega
                  have := Nat.le_of_mul_le_mul_right this hpos
                  omega
                refine (?_ : ∃ μ' w' v, r.1 = .val v ∧ (appTail rr.elem size (some (μ.addr a)) sLen ((μ a.block).ecap - (HUGE - sCap)) n bytes appended).run P w = .ok (conc μ' v) w' ∧ Rel G μ' N0 r.2 w' ∧ Ext μ σ w μ' r.2 w' ∧ wf r.2.nxt v).elim fun μ' hh => hh.elim fun w' hh => hh.elim fun v hh => ⟨μ', w', v, some (μ.addr a), _, by rw [conc_slice, hcv], hh⟩
                by_cases hn : n = 0
                · subst hn
                  rw [if_pos rfl] at hb; cases hb
                  have : new = [] := List.eq_nil_of_length_eq_zero (by rw [hln]; simp)
                  subst this
                  refine ⟨μ, w, _, rfl, ?_, h, Ext.refl _ _ _, hx⟩
                  unfold appTail
                  rw [if_pos (by have := hle sLen c5; omega)]
                  simp only [Sem.run_bind, happ w h, Result.andThen_ok, Sem.run_pure, List.map_nil, Go.storeCells, conc_slice, hcv, Nat.add_zero]
                · rw [if_neg hn] at hb
                  by_cases hend : a.off + sLen * size = rr.n
                  · rw [if_pos hend] at hb
                    cases hc : σ.cells a (sLen * size) with
                    | none => rw [hc] at hb; cases hb
                    | some old =>
                      rw [hc] at hb; simp only at hb
                      cases hg : (⟨σ.nxt, σ.objs.set a.block (.row { rr with kind := .ro })⟩ : Mem).newGrown rr.elem size (old ++ new) (a.block :: rr.anc) with
                      | none => simp only [c1] at hg; rw [hg] at hb; cases hb
                      | some q =>
                        obtain ⟨b, σ'⟩ := q
                        have hg' := hg
                        simp only [c1] at hg
                        rw [hg] at hb; cases hb
                        by_cases hfit : sLen + n ≤ (μ a.block).ecap - (HUGE - sCap)
                        · obtain ⟨μ', w', e1, e2, e3, e4, e5, e6⟩ := h.growIn P hsp ho hk c1 c3 hend hc ⟨n, hln, hfit⟩ (by rw [hln]; have := Nat.mul_pos (Nat.pos_of_ne_zero hn) hpos; omega) hpos hwn hone hg'
                          refine ⟨μ', w', _, rfl, ?_, e2, e3, e6⟩
                          unfold appTail
                          rw [if_pos hfit]
                          simp only [Sem.run_bind, happ w h, Result.andThen_ok, e1, Sem.run_pure, conc_slice, cap_huge, e4, e5]
                        · obtain ⟨r1, r2⟩ := h.toRo ho
                          obtain ⟨μ', w', e1, e2, e3, e4⟩ := tail_realloc P h r1 r2 rfl (bytes := bytes) (base := some (μ.addr a)) (sCap := (μ a.block).ecap - (HUGE - sCap)) hfit hg' (h.loadCells (P := P) hc).2 hwn
                            (fun j hj => by rcases List.mem_cons.1 hj with rfl | hj; exact hx; exact hwf.2.1 j hj) (Mem.cells_spec hc).1 hln hz hzl (fun w1 h1 => (h1.loadCells (P := P) hc).1) happ
                          refine ⟨μ', w', _, rfl, ?_, e2, e3, e4⟩
                          rw [e1, conc_slice, cap_huge]
                  · rw [if_neg hend] at hb
                    by_cases hin : a.off + (sLen + n) * size ≤ rr.n
                    · rw [if_pos hin] at hb
                      cases hst : Mem.storeL new σ (a.add (sLen * size)) 0 with
                      | none => rw [hst] at hb; cases hb
                      | some σ' =>
                        rw [hst] at hb; cases hb
                        obtain ⟨w', e1, e2, e3, e4⟩ := Rel.storeL0 (P := P) new h hst hwn
                        refine ⟨μ, w', _, rfl, ?_, e2, e3, (show a.block < σ'.nxt by rw [e4]; exact hx)⟩
                        unfold appTail
                        rw [if_pos (hle _ hin)]
                        simp only [Sem.run_bind, happ w h, Result.andThen_ok, Mu.addr_add _ _ _ hsp, e1, Sem.run_pure, conc_slice, hcv]
                    · rw [if_neg hin] at hb; cases hb
              · exfalso
                have : ((decide (rr.esz = size)) && (decide (rr.elem = elem) && (decide (a.off = (HUGE - sCap) * size) && (decide (sCap ≤ HUGE) && decide (a.off + sLen * size ≤ rr.n))))) = false := by
                  rw [Bool.eq_false_iff]; intro e; apply hcc; simpa using e
                rw [this] at hb; cases hb
          | _ => cases hb
end Vai

namespace Vai
open Go Go.RowKit

variable {P : Program} {G : Sym} {μ : Mu} {N0 : Nat} {σ : Mem} {w : World}

theorem append_tailZ {sType xt elem : TypeId} {size bytes n sLen sCap : Nat} {base : Option Addr} {kx : IntKind} {argTypes : Array TypeId} (ha0 : argTypes[0]? = some sType) (ha1 : argTypes[1]? = some xt)
    (hu : P.underlying sType = some (.slice elem)) (hs : szOf P elem = some size) (hy : bytesOfT P elem = some bytes) (hpos : 0 < bytes) (hlim : (2 * (sLen + n) + 1024) * bytes ≤ 140737488355328) (hneed : sLen + n ≤ 1099511627776)
    (ty : TypeId) (k : IntKind) (hd : P.underlying xt = some (.int k)) (w : World) (hn : n ≤ 1000000) :
    (Builtin.append_ argTypes ty #[.slice base sLen sCap, .int kx n]).run P w = (appTail elem size base sLen sCap n bytes (appd elem size n (.int kx n) true)).run P w := by
  obtain ⟨info, hi, hbb⟩ := bytesOfT_inv hy
  have wn : IntKind.i64.wrap ((n : Nat) : Int) = (n : Int) := by rw [IntKind.wrap_i64]; omega
  have hnb : ¬ ((n : Int) * (info.bytes : Int) > 2 ^ 48) := by
    have h1 : n * bytes ≤ (2 * (sLen + n) + 1024) * bytes := Nat.mul_le_mul_right _ (by omega)
    have h2 : (2 : Int) ^ 48 = 281474976710656 := rfl
    have h3 : ((n * info.bytes : Nat) : Int) ≤ 140737488355328 := by rw [hbb]; omega
    rw [Int.natCast_mul] at h3
    omega
  unfold Builtin.append_
  simp only [ha0, ha1, List.getElem?_toArray, List.getElem?_cons_zero, List.getElem?_cons_succ, Sem.run_bind, rUnd hu, Result.andThen_ok, rSize hs, rUnd hd, Sem.run_pure, if_true, asInt, asIntOf, wn, rInfo hi]
  rw [if_neg (by omega)]
  simp only [Sem.run_bind, rInfo hi, Result.andThen_ok, if_neg hnb, Sem.run_pure, Int.toNat_natCast]
  unfold appTail
  by_cases hc : sLen + n ≤ sCap
  · simp only [hc, if_true, Sem.run_bind, appd]
    cases base with
    | none => rfl
    | some a => simp only [Sem.run_bind]
  · simp only [hc, if_false, Sem.run_bind, rInfo hi, Result.andThen_ok, true_or, and_true]
    have hmax : IntKind.i64.max = (9223372036854775807 : Int) := rfl
    rw [if_neg (by rw [hmax]; omega)]
    have hnc := nextcap_le (show sCap < sLen + n by omega)
    have hno : ¬ (Builtin.nextslicecap (sLen + n) sCap * info.bytes > 2 ^ 48) := by
      rw [hbb]
      have h1 : Builtin.nextslicecap (sLen + n) sCap * bytes ≤ (2 * (sLen + n) + 1024) * bytes := Nat.mul_le_mul_right _ hnc
      have h2 : (2 : Nat) ^ 48 = 281474976710656 := rfl
      omega
    rw [hbb] at hno
    simp only [Sem.run_bind, rInfo hi, Result.andThen_ok, hbb, appd, Bool.not_true, Bool.false_eq_true, if_false, if_neg hno]

theorem aAppend_ok (h : Rel G μ N0 σ w) {argTypes : Array TypeId} {s x : Value} {r : NX × Mem} (hb : aAppend P σ argTypes s x = some r) (hs : wf σ.nxt s) (hx : wf σ.nxt x) (ty : TypeId) :
    OpOk P G μ N0 σ w (do pure (.value (← Builtin.append_ argTypes ty #[conc μ s, conc μ x]))) r := by
  unfold aAppend at hb
  cases ha0 : argTypes[0]? with
  | none => rw [ha0] at hb; cases hb
  | some sType =>
    cases ha1 : argTypes[1]? with
    | none => rw [ha0, ha1] at hb; cases hb
    | some xt =>
      rw [ha0, ha1] at hb
      cases s <;> (try simp only at hb) <;> (try cases hb)
      case slice base sLen sCap =>
        cases hu : P.underlying sType with
        | none => rw [hu] at hb; cases hb
        | some d =>
          rw [hu] at hb
          cases d <;> (try simp only at hb) <;> (try cases hb)
          case slice elem =>
            cases hsz : szOf P elem with
            | none => rw [hsz] at hb; cases hb
            | some size =>
              cases hy : bytesOfT P elem with
              | none => rw [hsz, hy] at hb; cases hb
              | some bytes =>
                cases hz : zeroOf P elem with
                | none => rw [hsz, hy, hz] at hb; cases hb
                | some z =>
                  rw [hsz, hy, hz] at hb; simp only at hb
                  cases hsrc : appSrc P σ xt size z x with
                  | none => rw [hsrc] at hb; cases hb
                  | some q =>
                    obtain ⟨n, new⟩ := q
                    rw [hsrc] at hb; simp only [natBlt, natBle, natBeq] at hb
                    by_cases hcc : 0 < size ∧ (vcells z).length = size ∧ 0 < bytes ∧ (2 * (sLen + n) + 1024) * bytes ≤ 140737488355328 ∧ new.length = n * size ∧ sLen + n ≤ 1099511627776 ∧ oneCellL new = true
                    · obtain ⟨c1, c2, c3, c4, c5, c6, c7⟩ := hcc
                      simp only [c1, c2, c3, c4, c5, c6, c7, decide_true, Bool.and_self, cond_true] at hb
                      have hzc := zeroOf_const hz
                      -- what is appended
                      have key : ∃ appended : Sem (Array Value), (∀ base' cap', (Builtin.append_ argTypes ty #[.slice base' sLen cap', conc μ x]).run P w = (appTail elem size base' sLen cap' n bytes appended).run P w) ∧
                          (∀ w1, Rel G μ N0 σ w1 → appended.run P w1 = .ok ⟨new.map (conc μ)⟩ w1) ∧ wfL σ.nxt new := by
                        unfold appSrc at hsrc
                        cases hd : P.underlying xt with
                        | none => rw [hd] at hsrc; cases hsrc
                        | some d =>
                          rw [hd] at hsrc
                          by_cases hint : ∃ k, d = .int k
                          · obtain ⟨k, rfl⟩ := hint
                            simp only at hsrc
                            cases x <;> (try simp only at hsrc) <;> (try cases hsrc)
                            case int kx i =>
                              cases i with
                              | negSucc j => cases hsrc
                              | ofNat j =>
                                simp only [natBle, cond_decide] at hsrc
                                by_cases hj : j ≤ 1000000
                                · rw [if_pos hj] at hsrc; cases hsrc
                                  refine ⟨_, fun base' cap' => append_tailZ ha0 ha1 hu hsz hy c3 c4 c6 ty k hd w hj, fun w1 _ => ?_, repL_wf (wfL_const' hzc) _⟩
                                  rw [repL_conc μ (vcells_const μ hzc)]
                                  have hzz : z.cells.toList = vcells z := by rw [vcells_eq]
                                  have hzs : z.cells.size = size := by rw [vcells_eq]; exact c2
                                  simp only [appd, Bool.not_true, Bool.false_eq_true, if_false]
                                  by_cases h0 : n * size = 0
                                  · rw [if_pos h0]
                                    have : n = 0 := by rcases Nat.mul_eq_zero.1 h0 with h1 | h1 <;> omega
                                    subst this
                                    rfl
                                  · rw [if_neg h0]
                                    simp only [Sem.run_bind, rZero hz, Result.andThen_ok, Sem.run_pure, Builtin.zeroCells]
                                    rw [hzs]
                                    have := repL_eq z.cells n size (by rw [hzz]; exact c2)
                                    rw [hzs, hzz] at this
                                    rw [this]
                                · rw [if_neg hj] at hsrc; cases hsrc
                          · have hsrc' : (match srcLen x with
                                | some n => match srcCells σ size n x with
                                  | some l => some (n, l)
                                  | none => none
                                | none => none) = some (n, new) := by
                              cases d <;> first | exact hsrc | exact absurd ⟨_, rfl⟩ hint
                            cases hl : srcLen x with
                            | none => rw [hl] at hsrc'; cases hsrc'
                            | some m =>
                              rw [hl] at hsrc'; simp only at hsrc'
                              cases hcl : srcCells σ size m x with
                              | none => rw [hcl] at hsrc'; cases hsrc'
                              | some l =>
                                rw [hcl] at hsrc'; cases hsrc'
                                refine ⟨_, fun base' cap' => append_tail ha0 ha1 hu hsz hy c3 c4 c6 ty d hd (fun k e => hint ⟨k, e⟩) w (srcLen_run hl w), fun w1 h1 => ?_, (srcCells_run (P := P) h hcl).2⟩
                                simp only [appd, Bool.not_false, if_true]
                                exact (srcCells_run h1 hcl).1
                      obtain ⟨appended, k1, k2, k3⟩ := key
                      obtain ⟨μ', w', v, base', cap', e1, e2, e3, e4, e5, e6⟩ := appDo_ok P h hb hs k3 (oneCellL_spec new c7) c5 c1 hz c2 c6 (bytes := bytes) k2
                      refine ⟨μ', w', e4, e5, ?_⟩
                      rw [e2]
                      refine ⟨?_, e6⟩
                      simp only [Sem.run_bind, e1, k1, e3, Result.andThen_ok, Sem.run_pure]
                    · exfalso
                      have : ((decide (0 < size)) && (decide ((vcells z).length = size) && (decide (0 < bytes) && (decide ((2 * (sLen + n) + 1024) * bytes ≤ 140737488355328) && (decide (new.length = n * size) && (decide (sLen + n ≤ 1099511627776) && oneCellL new)))))) = false := by
                        rw [Bool.eq_false_iff]; intro e; apply hcc; simpa using e
                      rw [this] at hb; cases hb

theorem aCopy_ok (h : Rel G μ N0 σ w) {argTypes : Array TypeId} {d s : Value} {r : NX × Mem} (hb : aCopy P σ argTypes d s = some r) (ty : TypeId) :
    OpOk P G μ N0 σ w (do pure (.value (← Builtin.copy_ argTypes ty #[conc μ d, conc μ s]))) r := by
  unfold aCopy at hb
  cases ha0 : argTypes[0]? with
  | none => rw [ha0] at hb; cases hb
  | some dt =>
    rw [ha0] at hb; (try simp only at hb)
    cases hu : P.underlying dt with
    | none => rw [hu] at hb; cases hb
    | some de =>
      rw [hu] at hb
      cases de <;> (try simp only at hb) <;> (try cases hb)
      case slice elem =>
        cases hsz : szOf P elem with
        | none => rw [hsz] at hb; cases hb
        | some size =>
          cases d <;> (try (rw [hsz] at hb; cases hb; done))
          case slice base dLen dCap =>
            cases hl : srcLen s with
            | none => rw [hsz, hl] at hb; cases hb
            | some sl =>
              rw [hsz, hl] at hb; simp only [min_cond] at hb
              cases hc : srcCells σ size (min sl dLen) s with
              | none => rw [hc] at hb; cases hb
              | some cells =>
                rw [hc] at hb; simp only at hb
                obtain ⟨hc1, hc2⟩ := srcCells_run (P := P) h hc
                have start : ∀ base' cap', (Builtin.copy_ argTypes ty #[.slice base' dLen cap', conc μ s]).run P w =
                    ((match base' with
                      | some a => storeCells a (cells.map (conc μ))
                      | none => pure () : Sem Unit).run P w).andThen fun _ w' => .ok (goInt ((min sl dLen : Nat) : Int)) w' := by
                  intro base' cap'
                  unfold Builtin.copy_
                  have hmin : Nat.min sl dLen = min sl dLen := rfl
                  simp only [ha0, List.getElem?_toArray, List.getElem?_cons_zero, List.getElem?_cons_succ, Sem.run_bind, rUnd hu, Result.andThen_ok, srcLen_run hl, rSize hsz, hmin, hc1]
                  cases base' with
                  | none => rfl
                  | some a => simp only [Sem.run_bind, Sem.run_pure]
                cases base with
                | none =>
                  cases hb
                  refine OpOk.pure h ?_ trivial
                  rw [Sem.run_bind, show conc μ (.slice none dLen dCap) = .slice none dLen dCap from rfl, start]
                  rfl
                | some a =>
                  simp only at hb
                  cases hst : Mem.storeL cells σ a 0 with
                  | none => rw [hst] at hb; cases hb
                  | some σ' =>
                    rw [hst] at hb; cases hb
                    obtain ⟨w', e1, e2, e3, e4⟩ := Rel.storeL0 (P := P) cells h hst hc2
                    refine ⟨μ, w', e2, e3, ?_, trivial⟩
                    rw [Sem.run_bind, conc_slice, start]
                    simp only [e1, Result.andThen_ok]
                    rfl
end Vai

namespace Vai
open Go Go.RowKit

variable {P : Program} {G : Sym} {μ : Mu} {N0 : Nat} {σ : Mem} {w : World}

theorem aLen_ok (h : Rel G μ N0 σ w) {argTypes : Array TypeId} {x : Value} {v : NX} (hb : aLen P σ argTypes x = some v) (ty : TypeId) :
    OpOk P G μ N0 σ w (do pure (.value (← Builtin.len_ argTypes ty #[conc μ x]))) (v, σ) := by
  unfold aLen at hb
  cases ha0 : argTypes[0]? with
  | none => rw [ha0] at hb; cases hb
  | some t =>
    rw [ha0] at hb; (try simp only at hb)
    have start : (do pure (.value (← Builtin.len_ argTypes ty #[conc μ x])) : Sem Next).run P w = ((Builtin.len_ argTypes ty #[conc μ x]).run P w).andThen fun v w' => .ok (.value v) w' := by
      simp only [Sem.run_bind, Sem.run_pure]
    cases hu : P.underlying t with
    | none => rw [hu] at hb; cases hb
    | some d =>
      rw [hu] at hb
      cases d <;> (try simp only at hb) <;> (try cases hb)
      case string =>
        cases x <;> (try simp only at hb) <;> (try cases hb)
        case string s =>
          refine OpOk.pure h ?_ trivial
          rw [start]; unfold Builtin.len_
          simp only [ha0, List.getElem?_toArray, List.getElem?_cons_zero, Sem.run_bind, rUnd hu, Result.andThen_ok, conc, Sem.run_pure]; rfl
      case slice e =>
        cases x <;> (try simp only at hb) <;> (try cases hb)
        case slice a n c =>
          refine OpOk.pure h ?_ trivial
          rw [start]; unfold Builtin.len_
          cases a <;> simp only [ha0, List.getElem?_toArray, List.getElem?_cons_zero, Sem.run_bind, rUnd hu, Result.andThen_ok, conc, Sem.run_pure] <;> rfl
      case array.refl n e =>
        refine OpOk.pure h ?_ trivial
        rw [start]; unfold Builtin.len_
        simp only [ha0, List.getElem?_toArray, List.getElem?_cons_zero, Sem.run_bind, rUnd hu, Result.andThen_ok, Sem.run_pure]; rfl
      case pointer arr =>
        cases hu2 : P.underlying arr with
        | none => rw [hu2] at hb; cases hb
        | some d2 =>
          rw [hu2] at hb
          cases d2 <;> (try simp only at hb) <;> (try cases hb)
          case array.refl n e =>
            refine OpOk.pure h ?_ trivial
            rw [start]; unfold Builtin.len_
            simp only [ha0, List.getElem?_toArray, List.getElem?_cons_zero, Sem.run_bind, rUnd hu, rUnd hu2, Result.andThen_ok, Sem.run_pure]; rfl
      case map k e =>
        cases x <;> (try simp only at hb) <;> (try cases hb)
        case map m =>
          cases m with
          | none =>
            simp only at hb; cases hb
            refine OpOk.pure h ?_ trivial
            rw [start]; unfold Builtin.len_
            simp only [ha0, List.getElem?_toArray, List.getElem?_cons_zero, Sem.run_bind, rUnd hu, Result.andThen_ok, conc, Sem.run_pure]; rfl
          | some m =>
            simp only at hb
            cases ho : σ.objs.get m with
            | none => rw [ho] at hb; cases hb
            | some o =>
              rw [ho] at hb
              cases o <;> (try simp only at hb) <;> (try cases hb)
              case map.refl es clock =>
                refine OpOk.pure h ?_ trivial
                have hm := (h.ob _ _ ho).2.2.1
                have hg : (getObj (μ m).blk).run P w = .ok (.map (es.map (concE μ)).toArray clock) w := by simp [getObj, Sem.run, hm]
                rw [start]; unfold Builtin.len_
                simp only [ha0, List.getElem?_toArray, List.getElem?_cons_zero, Sem.run_bind, rUnd hu, Result.andThen_ok, conc, hg, Sem.run_pure]
                simp [goInt]

theorem aCap_ok (h : Rel G μ N0 σ w) {argTypes : Array TypeId} {x : Value} {v : NX} (hb : aCap P argTypes x = some v) (ty : TypeId) :
    OpOk P G μ N0 σ w (do pure (.value (← Builtin.cap_ argTypes ty #[conc μ x]))) (v, σ) := by
  unfold aCap at hb
  cases ha0 : argTypes[0]? with
  | none => rw [ha0] at hb; cases hb
  | some t =>
    rw [ha0] at hb; (try simp only at hb)
    have start : (do pure (.value (← Builtin.cap_ argTypes ty #[conc μ x])) : Sem Next).run P w = ((Builtin.cap_ argTypes ty #[conc μ x]).run P w).andThen fun v w' => .ok (.value v) w' := by
      simp only [Sem.run_bind, Sem.run_pure]
    cases hu : P.underlying t with
    | none => rw [hu] at hb; cases hb
    | some d =>
      rw [hu] at hb
      cases d <;> (try simp only at hb) <;> (try cases hb)
      case slice e =>
        cases x <;> (try simp only at hb) <;> (try cases hb)
        case slice a n c =>
          cases a with
          | none =>
            cases hb
            refine OpOk.pure h ?_ trivial
            rw [start]; unfold Builtin.cap_
            simp only [ha0, List.getElem?_toArray, List.getElem?_cons_zero, Sem.run_bind, rUnd hu, Result.andThen_ok, conc, Sem.run_pure]; rfl
          | some a =>
            simp only [natBlt, cond_decide] at hb
            by_cases hc : c < HALF
            · rw [if_pos hc] at hb; cases hb
              refine OpOk.pure h ?_ trivial
              rw [start]; unfold Builtin.cap_
              simp only [ha0, List.getElem?_toArray, List.getElem?_cons_zero, Sem.run_bind, rUnd hu, Result.andThen_ok, conc_slice, cap_small _ _ _ hc, Sem.run_pure]; rfl
            · rw [if_neg hc] at hb; cases hb

theorem ilt_if {α : Type} (a b : Int) (x y : α) : cond (ilt a b) x y = if a < b then x else y := by rw [ilt_eq, cond_decide]

theorem aMin_ok (h : Rel G μ N0 σ w) {args : List Value} {v : NX} {a t : Array TypeId} {ty : TypeId} (hb : aMinMax false args = some v) :
    OpOk P G μ N0 σ w (do pure (.value (← Builtin.min_ a ty ⟨args.map (conc μ)⟩))) (v, σ) := by
  unfold aMinMax at hb
  split at hb
  · cases hb
    refine OpOk.pure h ?_ trivial
    simp only [Builtin.min_, List.map_cons, List.map_nil, conc_int, List.foldlM_cons, List.foldlM_nil, Builtin.min2, cond_false, ilt_if]
    rfl
  · cases hb
    refine OpOk.pure h ?_ trivial
    simp only [Builtin.min_, List.map_cons, List.map_nil, conc_int, List.foldlM_cons, List.foldlM_nil, Builtin.min2, cond_false, ilt_if]
    rfl
  · cases hb
theorem aMax_ok (h : Rel G μ N0 σ w) {args : List Value} {v : NX} {a t : Array TypeId} {ty : TypeId} (hb : aMinMax true args = some v) :
    OpOk P G μ N0 σ w (do pure (.value (← Builtin.max_ a ty ⟨args.map (conc μ)⟩))) (v, σ) := by
  unfold aMinMax at hb
  split at hb
  · cases hb
    refine OpOk.pure h ?_ trivial
    simp only [Builtin.max_, List.map_cons, List.map_nil, conc_int, List.foldlM_cons, List.foldlM_nil, Builtin.max2, cond_true, ilt_if]
    rfl
  · cases hb
    refine OpOk.pure h ?_ trivial
    simp only [Builtin.max_, List.map_cons, List.map_nil, conc_int, List.foldlM_cons, List.foldlM_nil, Builtin.max2, cond_true, ilt_if]
    rfl
  · cases hb

theorem xor_signed (k : IntKind) (n : Int) (hs : k.signed = true) : (Op.unary .xor (.int k n)) = pure (.int k (wrapK k (-1 - n))) := by
  have e : Op.unary .xor (.int k n) = Op.intBits .xor k (-1) n := by
    show Op.intBits .xor k (if k.signed then -1 else k.max) n = _
    rw [hs, if_pos rfl]
  rw [e]
  show pure (Value.int k (k.wrap ((BitVec.ofInt k.bits (-1) ^^^ BitVec.ofInt k.bits n).toNat))) = _
  congr 2
  rw [wrapK_eq]
  have h1 : BitVec.ofInt k.bits (-1) = BitVec.allOnes k.bits := by
    apply BitVec.eq_of_toNat_eq
    cases k <;> first | rfl | cases hs
  rw [h1, BitVec.allOnes_xor, BitVec.toNat_not]
  have hM : (0 : Int) < 2 ^ k.bits := by cases k <;> decide
  have key : (((2 ^ k.bits - 1 - (BitVec.ofInt k.bits n).toNat : Nat) : Int)) % (2 ^ k.bits : Int) = (-1 - n) % (2 ^ k.bits : Int) := by
    have h2 : ((BitVec.ofInt k.bits n).toNat : Int) = n % (2 ^ k.bits : Int) := by
      rw [BitVec.toNat_ofInt]
      have h0 : 0 ≤ n % ((2 ^ k.bits : Nat) : Int) := Int.emod_nonneg _ (by have := Nat.two_pow_pos k.bits; omega)
      rw [Int.toNat_of_nonneg h0]
      simp
    have hlt := (BitVec.ofInt k.bits n).isLt
    have h3 : (((2 ^ k.bits - 1 - (BitVec.ofInt k.bits n).toNat : Nat) : Int)) = (2 ^ k.bits : Int) - 1 - n % (2 ^ k.bits : Int) := by
      rw [← h2]
      have : ((2 ^ k.bits : Nat) : Int) = (2 ^ k.bits : Int) := by simp
      rw [← this]; omega
    rw [h3]
    have h4 : (2 ^ k.bits : Int) - 1 - n % (2 ^ k.bits : Int) = (-1 - n) + (2 ^ k.bits : Int) * (n / (2 ^ k.bits : Int) + 1) := by
      have := Int.emod_add_mul_ediv n (2 ^ k.bits : Int)
      rw [Int.mul_add, Int.mul_one]
      omega
    rw [h4, Int.add_mul_emod_self_left]
  unfold IntKind.wrap
  rw [key]
theorem aUn_ok (h : Rel G μ N0 σ w) {op : UnOp} {x : Value} {v : NX} (hb : aUn op x = some v) :
    OpOk P G μ N0 σ w (do pure (.value (← Op.unary op (conc μ x)))) (v, σ) := by
  unfold aUn at hb
  split at hb
  · cases hb
    refine OpOk.pure h ?_ trivial
    simp only [conc_int, Op.unary, Op.intArith, Sem.run_bind, Sem.run_pure, Result.andThen_ok, wrapK_eq]
  · cases hb
    refine OpOk.pure h ?_ trivial
    rfl
  · rename_i k n
    simp only [natBlt] at hb
    cases hs : k.signed with
    | true =>
      rw [hs, cond_true] at hb; cases hb
      refine OpOk.pure h ?_ trivial
      rw [conc_int, show Value.int k (Int.ofNat n) = Value.int k (Int.ofNat n) from rfl, xor_signed k _ hs]
      rfl
    | false =>
      rw [hs] at hb
      by_cases hn : n < modK k
      · simp only [hn, decide_true, Bool.not_true, cond_false] at hb
        cases hb
        refine OpOk.pure h ?_ trivial
        simp only [conc_int, Op.unary, hs, Bool.false_eq_true, if_false, Op.intBits, Sem.run_bind, Sem.run_pure, Result.andThen_ok]
        congr 3
        have e1 := ofInt_toNat k n hn
        have hmax : k.max = Int.ofNat (modK k - 1) := by cases k <;> first | rfl | cases hs
        have hM : 0 < modK k := by cases k <;> decide
        rw [hmax, BitVec.toNat_xor, e1, ofInt_toNat k _ (by omega)]
        have hx : (modK k - 1) ^^^ n = modK k - 1 - n := by
          rw [← bits_k]
          rw [← bits_k] at hn
          apply Nat.eq_of_testBit_eq
          intro i
          rw [Nat.testBit_xor, Nat.testBit_two_pow_sub_one]
          rw [show 2 ^ k.bits - 1 - n = 2 ^ k.bits - (n + 1) from by omega, Nat.testBit_two_pow_sub_succ hn]
          by_cases hi : i < k.bits
          · simp [hi]
          · simp only [hi, decide_false, Bool.false_and, Bool.false_xor]
            exact Nat.testBit_lt_two_pow (Nat.lt_of_lt_of_le hn (Nat.pow_le_pow_right (by omega) (by omega)))
        rw [hx]
        rw [← wrapK_eq, wrapK, hs, cond_false]
        show Int.ofNat (umod (modK k) (Int.ofNat (modK k - 1 - n))) = _
        simp only [umod]
        rw [Nat.mod_eq_of_lt (by omega)]
      · simp only [hn, decide_false, Bool.not_false, cond_false, cond_true] at hb; cases hb
  · rename_i k n
    cases hs : k.signed with
    | true =>
      rw [hs, cond_true] at hb; cases hb
      refine OpOk.pure h ?_ trivial
      rw [conc_int, xor_signed k _ hs]
      rfl
    | false => rw [hs] at hb; cases hb
  · cases hb

theorem bytesOf_cons (v : Value) (l : List Value) : bytesOf (v :: l) = (match v with
      | .int .u8 n => match bytesOf l with
        | some bs => some (UInt8.ofNat n.toNat :: bs)
        | none => none
      | _ => none) := rfl
theorem bytesOf_spec : ∀ (l : List Value) (bs : List UInt8), bytesOf l = some bs → l.length = bs.length ∧ ∃ ns : List Int, l = ns.map (Value.int .u8) ∧ bs = ns.map fun n => UInt8.ofNat n.toNat
  | [], bs, h => by
    have : some [] = some bs := h
    cases this; exact ⟨rfl, [], rfl, rfl⟩
  | v :: l, bs, h => by
    rw [bytesOf_cons] at h
    cases v with
    | int k n =>
      cases k with
      | u8 =>
        simp only at h
        cases hb : bytesOf l with
        | none => rw [hb] at h; cases h
        | some bs' =>
          rw [hb] at h; cases h
          obtain ⟨h1, ns, h2, h3⟩ := bytesOf_spec l bs' hb
          exact ⟨by simp [h1], n :: ns, by simp [h2], by simp [h3]⟩
      | _ => cases h
    | _ => cases h
end Vai

namespace Vai
open Go Go.RowKit

variable {P : Program} {G : Sym} {μ : Mu} {N0 : Nat} {σ : Mem} {w : World}

theorem freeze_alloc (w : World) (X : Array Value) (e : TypeId) : (w.alloc (.cells X e)).freeze ⟨w.heap.size, X.size, none⟩ 1 = w.alloc (.cells X e (X.size, X.size + 1)) := by
  unfold World.freeze
  rw [if_neg (by decide)]
  simp only [World.alloc]
  congr 1
  apply Array.ext_getElem?
  intro i
  rw [Array.getElem?_modify, Array.getElem?_push, Array.getElem?_push]
  by_cases h : i = w.heap.size
  · subst h; simp
  · rw [if_neg (by omega), if_neg h, if_neg h]

theorem freeze_get (w : World) (b : Nat) {c : Array Value} {e : TypeId} (h : w.heap[b]? = some (.cells c e (0, 0))) (j : Nat) :
    (w.freeze ⟨b, c.size, none⟩ 1).heap[j]? = if j = b then some (.cells c e (c.size, c.size + 1)) else w.heap[j]? := by
  unfold World.freeze
  rw [if_neg (by decide)]
  simp only [Array.getElem?_modify]
  by_cases hj : b = j
  · subst hj; simp [h]
  · rw [if_neg hj, if_neg (fun e => hj e.symm)]

/-- A row whose block is marked as a string's bytes. -/
theorem Rel.mark (h : Rel G μ N0 σ w) {id : Nat} {r : Row} (ho : σ.objs.get id = some (.row r)) (hk : r.kind = .own) :
    ∃ c, w.heap[(μ id).blk]? = some (.cells c r.elem (0, 0)) ∧
    Rel G μ N0 ⟨σ.nxt, σ.objs.set id (.row { r with kind := .lit })⟩ (w.freeze ⟨(μ id).blk, c.size, none⟩ 1) ∧
    Ext μ σ w μ ⟨σ.nxt, σ.objs.set id (.row { r with kind := .lit })⟩ (w.freeze ⟨(μ id).blk, c.size, none⟩ 1) := by
  obtain ⟨hid, hwf, c, fr, hr⟩ := h.ob _ _ ho
  obtain ⟨hfr, hsh, hcs⟩ := hr.own hk
  subst hfr
  have hcap : id < 1099511627776 := Nat.lt_of_lt_of_le hid h.lim
  have hro : r.kind ≠ .ro := by rw [hk]; intro e; cases e
  have get : ∀ j, (σ.objs.set id (.row { r with kind := .lit })).get j = if j = id then some (.row { r with kind := .lit }) else σ.objs.get j := fun j => T.get_set _ _ _ _ hcap
  have hp := freeze_get w (μ id).blk hr.heap
  have hsz : (w.freeze ⟨(μ id).blk, c.size, none⟩ 1).heap.size = w.heap.size := by unfold World.freeze; rw [if_neg (by decide)]; simp
  have hos : (w.freeze ⟨(μ id).blk, c.size, none⟩ 1).os = w.os ∧ (w.freeze ⟨(μ id).blk, c.size, none⟩ 1).tape = w.tape ∧ (w.freeze ⟨(μ id).blk, c.size, none⟩ 1).output = w.output := by
    unfold World.freeze; rw [if_neg (by decide)]; exact ⟨rfl, rfl, rfl⟩
  have alone : ∀ j p, j ≠ id → σ.objs.get j = some p → p.live → (μ j).blk ≠ (μ id).blk := by
    intro j p hne hj hl e
    rcases h.sep j id p _ hne hj ho hl trivial e with h1 | h1
    · cases p <;> simp [Shares, hk] at h1
    · cases p <;> simp [Shares, hk] at h1
  refine ⟨c, hr.heap, ⟨h.glob, h.gnxt, h.lim, ?_, ?_, by rw [hsz]; exact h.base⟩, ⟨fun _ _ => rfl, Nat.le_refl _, hos.1, hos.2.1, hos.2.2, by rw [hsz]; exact Nat.le_refl _, ?_, ?_, ?_⟩⟩
  · intro j p hj
    rw [get] at hj
    by_cases e : j = id
    · rw [if_pos e] at hj; cases hj; subst e
      refine ⟨hid, hwf, c, (c.size, c.size + 1), ⟨by rw [hp, if_pos rfl], hr.size, hr.cell, fun _ => hr.old hro, (fun e => by cases e), fun _ o ho => ?_, (fun e => by cases e)⟩⟩
      rw [decide_eq_false (by simp only; omega)]; rfl
    · rw [if_neg e] at hj
      obtain ⟨h1, h2, h3⟩ := h.ob j p hj
      refine ⟨h1, h2, ?_⟩
      by_cases hl : p.live
      · exact ObOk.keep (w := w) (fun _ _ => rfl) h1 h2 (by rw [hp, if_neg (alone j p e hj hl)]) h3
      · cases p <;> simp [Ob.live] at hl; trivial
  · intro i j p q hij hi hj li lj hb
    rw [get] at hi hj
    by_cases ei : i = id
    · rw [if_neg (fun e => hij (ei.trans e.symm))] at hj
      rw [ei] at hb
      exact absurd hb.symm (alone j q (fun e => hij (ei.trans e.symm)) hj lj)
    · rw [if_neg ei] at hi
      by_cases ej : j = id
      · rw [ej] at hb; exact absurd hb (alone i p ei hi li)
      · rw [if_neg ej] at hj; exact h.sep i j p q hij hi hj li lj hb
  · intro b hb hn
    rw [hp, if_neg]
    intro e
    exact hn id _ ho hro e.symm
  · intro j p hj hm
    right
    rw [get] at hj
    by_cases e : j = id
    · exact ⟨id, _, ho, hro, by rw [e]⟩
    · rw [if_neg e] at hj; exact ⟨j, p, hj, hm, rfl⟩
  · intro j p hj hm
    right
    rw [get] at hj
    by_cases e : j = id
    · exact ⟨id, _, ho, trivial, by rw [e]⟩
    · rw [if_neg e] at hj; exact ⟨j, p, hj, hm, rfl⟩

theorem aConvert_ok (h : Rel G μ N0 σ w) {s d : TypeId} {x : Value} {r : NX × Mem} (hb : aConvert P σ s d x = some r) :
    OpOk P G μ N0 σ w (do pure (.value (← Go.convert s d (conc μ x)))) r := by
  unfold aConvert at hb
  split at hb
  · rename_i us ud k k' n hs hd
    cases hb
    refine OpOk.pure h ?_ trivial
    simp only [Go.convert, Sem.run_bind, rUnd hs, rUnd hd, Result.andThen_ok, conc_int, Conv.intToInt, Sem.run_pure, wrapK_eq]
  · rename_i us ud st hs hd
    cases hb
    refine OpOk.pure h ?_ trivial
    simp only [Go.convert, Sem.run_bind, rUnd hs, rUnd hd, Result.andThen_ok, conc, Sem.run_pure]
  · rename_i us ud e st hs hd
    cases hu : P.underlying e with
    | none => rw [hu] at hb; cases hb
    | some de =>
      rw [hu] at hb
      split at hb
      · rename_i heq
        cases heq
        simp only [natBle, cond_decide] at hb
        by_cases hl : st.data.toList.length ≤ 1048576
        · rw [if_pos hl] at hb
          cases hg : σ.newGrown e 1 (byteVals st.data.toList) [] with
          | none => rw [hg] at hb; cases hb
          | some q =>
            obtain ⟨a, σ'⟩ := q
            rw [hg] at hb; cases hb
            have hsz : st.size = st.data.toList.length := rfl
            have hcut := cut_append st.size 0 e (w.tape w.drawn (.appendCap st.size 0 e))
            have hbl : (byteVals st.data.toList).length = st.size := by rw [byteVals, List.length_map]; rfl
            obtain ⟨μ', e1, e2, e3, e4, e5⟩ := h.drew.newGrown (rest := List.replicate (Question.cut (.appendCap st.size 0 e) (w.tape w.drawn (.appendCap st.size 0 e)) - st.size) (.int .u8 0))
              (ec := Question.cut (.appendCap st.size 0 e) (w.tape w.drawn (.appendCap st.size 0 e))) hg (byteVals_wf _ _) (fun j hj => absurd hj (by simp)) (by rw [Nat.mul_one, hbl]; exact hcut) (by rw [Nat.mul_one, hbl, List.length_replicate]; omega)
              (Question.cut (.appendCap st.size 0 e) (w.tape w.drawn (.appendCap st.size 0 e)), Question.cut (.appendCap st.size 0 e) (w.tape w.drawn (.appendCap st.size 0 e)) + 1)
              (fun o ho => by rw [List.length_replicate, hbl] at ho; rw [decide_eq_false (by simp only; omega)]; rfl)
            rw [byteVals_conc] at e1 e2
            refine ⟨μ', _, e1, (Ext.drew μ σ w).trans e2, ?_, e4⟩
            have hX : (st.data.map (fun b => Value.int .u8 b.toNat)) ++ Array.replicate (Question.cut (.appendCap st.size 0 e) (w.tape w.drawn (.appendCap st.size 0 e)) - st.size) (Value.int .u8 0) =
                ⟨byteVals st.data.toList ++ List.replicate (Question.cut (.appendCap st.size 0 e) (w.tape w.drawn (.appendCap st.size 0 e)) - st.size) (.int .u8 0)⟩ := by
              apply Array.ext'
              simp [byteVals]
            have hXs : (⟨byteVals st.data.toList ++ List.replicate (Question.cut (.appendCap st.size 0 e) (w.tape w.drawn (.appendCap st.size 0 e)) - st.size) (.int .u8 0)⟩ : Array Value).size = Question.cut (.appendCap st.size 0 e) (w.tape w.drawn (.appendCap st.size 0 e)) := by
              show (byteVals st.data.toList ++ _).length = _
              rw [List.length_append, hbl, List.length_replicate]; omega
            have hf : (Question.appendCap st.size 0 e).forced = false := rfl
            have hshape : ∀ (ww : World) X, (ww.alloc (.cells X e)).shape? ww.heap.size = some (e, X.size) := by
              intro ww X; unfold World.shape?; rw [heap_alloc_new]
            simp only [Go.convert, Sem.run_bind, rUnd hs, rUnd hd, Result.andThen_ok, conc, rUnd hu, Conv.stringToBytes, run_choose, hf, Bool.false_eq_true, if_false, Go.newRow, run_newObj, World.alloc_eq, World.drew_eq, Sem.run_pure, markStringish, run_shape]
            rw [hX]
            rw [hshape]
            simp only [Sem.run_bind, run_freeze, Result.andThen_ok, Sem.run_pure, freeze_alloc]
            rw [hXs, e3]
            simp only [cap_huge, e5]
            rfl
        · rw [if_neg hl] at hb; cases hb
      · cases hb
  · rename_i us ud e1 e a len cap hs hd
    cases hu : P.underlying e with
    | none => rw [hu] at hb; cases hb
    | some de =>
      rw [hu] at hb
      split at hb
      · rename_i heq
        cases heq
        simp only [natBeq, cond_decide] at hb
        by_cases hsd : s = d
        · rw [if_pos hsd] at hb
          cases ho : σ.objs.get a.block with
          | none => rw [ho] at hb; cases hb
          | some ob =>
            rw [ho] at hb
            cases ob <;> simp only at hb <;> (try (cases hb; done))
            rename_i r1
            cases hk : r1.kind <;> rw [hk] at hb <;> simp only at hb <;> (try (cases hb; done))
            cases hb
            obtain ⟨c, k1, k2, k3⟩ := h.mark ho hk
            refine ⟨μ, _, k2, k3, ?_, (h.ob _ _ ho).1⟩
            have hshape : w.shape? (μ a.block).blk = some (r1.elem, c.size) := by unfold World.shape?; rw [k1]
            have hab : (μ.addr a).block = (μ a.block).blk := rfl
            have hbq : (s == d) = true := by simp [hsd]
            have hd' : P.underlying s = some (.slice e) := by rw [hsd]; exact hd
            subst hsd
            simp only [Go.convert, Sem.run_bind, rUnd hd, Result.andThen_ok, conc, rUnd hu, hbq, markStringish, run_shape, hab, hshape, run_freeze, Sem.run_pure]
        · rw [if_neg hsd] at hb; cases hb
      · cases hb
  · rename_i us ud e base len cap hs hd
    cases hu : P.underlying e with
    | none => rw [hu] at hb; cases hb
    | some de =>
      rw [hu] at hb
      split at hb
      · rename_i heq
        cases heq
        cases base with
        | none =>
          cases hb
          refine OpOk.pure h ?_ trivial
          simp only [Go.convert, Sem.run_bind, rUnd hs, rUnd hd, Result.andThen_ok, conc, rUnd hu, Conv.bytesToString, Sem.run_pure]
          rfl
        | some a =>
          simp only at hb
          cases hc : σ.cells a len with
          | none => rw [hc] at hb; cases hb
          | some l =>
            rw [hc] at hb; simp only at hb
            cases hby : bytesOf l with
            | none => rw [hby] at hb; cases hb
            | some bs =>
              rw [hby] at hb; cases hb
              obtain ⟨h1, ns, rfl, rfl⟩ := bytesOf_spec l bs hby
              refine OpOk.pure h ?_ trivial
              have hl := (h.loadCells (P := P) hc).1
              have hmap : (ns.map (Value.int .u8)).map (conc μ) = ns.map (Value.int .u8) := by rw [List.map_map]; rfl
              rw [hmap] at hl
              have := run_bytesToString w (μ.addr a) len (μ.cap a.block cap) ns hl
              simp only [Go.convert, Sem.run_bind, rUnd hs, rUnd hd, Result.andThen_ok, conc_slice, rUnd hu, this, Sem.run_pure]
              have hfold : ∀ (ns : List Int) (s : ByteArray), ns.foldl (fun r n => r.push (UInt8.ofNat n.toNat)) s = ⟨⟨s.data.toList ++ ns.map fun n => UInt8.ofNat n.toNat⟩⟩ := by
                intro ns
                induction ns with
                | nil => intro s; exact ba_ext (by simp)
                | cons n ns ih => intro s; rw [List.foldl_cons, ih]; exact ba_ext (by simp)
              rw [hfold]
              rfl
      · cases hb
  · cases hb
end Vai

namespace Vai
open Go Go.RowKit

variable {P : Program} {G : Sym} {μ : Mu} {N0 : Nat} {σ : Mem} {w : World}

theorem aEq_zero (P : Program) (σ : Mem) (t : TypeId) (x y : Value) : aEq P σ 0 t x y = none := rfl

theorem aEq_succ (P : Program) (σ : Mem) (n : Nat) (t : TypeId) (x y : Value) : aEq P σ (n + 1) t x y = (match P.underlying t, x, y with
      | some .bool, .bool a, .bool b => some (a == b)
      | some (.int _), .int k a, .int k' b => if k = k' then some (ieq a b) else none
      | some .string, .string a, .string b => some (lEq a.data.toList b.data.toList)
      | some (.pointer _), .pointer none, .pointer b => some b.isNone
      | some (.pointer _), .pointer (some _), .pointer none => some false
      | some (.pointer e), .pointer (some a), .pointer (some b) => match szOf P e, a.spot, b.spot with
        | some (_ + 1), none, none => cond (Nat.beq a.block b.block) (some (Nat.beq a.off b.off))
          (match σ.objs.get a.block, σ.objs.get b.block with
          | some (.row r), some (.row s) => match r.kind, s.kind with
            | .own, .own => some false
            | _, _ => none
          | _, _ => none)
        | _, _, _ => none
      | some (.interface _), .nilIface, .nilIface => some true
      | some (.interface _), .nilIface, .iface _ _ => some false
      | some (.interface _), .iface _ _, .nilIface => some false
      | some (.interface _), .iface tx vx, .iface ty vy => cond (Nat.beq tx ty) (match P.info? tx with
        | some i => cond i.comparable (aEq P σ n tx vx vy) none
        | none => none) (some false)
      | some (.slice _), .slice none _ _, .slice b _ _ => some b.isNone
      | some (.slice _), .slice (some _) _ _, .slice none _ _ => some false
      | some (.map _ _), .map none, .map b => some b.isNone
      | some (.map _ _), .map (some _), .map none => some false
      | some (.func _ _ _), .nilFunc, .nilFunc => some true
      | some (.func _ _ _), .nilFunc, .func _ _ _ => some false
      | some (.func _ _ _), .func _ _ _, .nilFunc => some false
      | some (.struct fields), .agg xs, .agg ys => cond (P.stoodInAs t).isEmpty (allO (fun f => cond (f.name == "_") (some true) (partsEq P (aEq P σ n) f.type xs.toList ys.toList f.offset)) fields.toList) none
      | some (.array len elem), .agg xs, .agg ys => match szOf P elem with
        | some m => allO (fun i => partsEq P (aEq P σ n) elem xs.toList ys.toList (i * m)) (List.range' 0 len)
        | none => none
      | _, _, _ => none) := rfl

theorem allO_cons {α : Type} (p : α → Option Bool) (a : α) (l : List α) : allO p (a :: l) = (match p a with
    | some true => allO p l
    | some false => some false
    | none => none) := rfl
theorem forIn_allO {α : Type} {p : α → Option Bool} {body : α → Sem (ForInStep (Option Bool × PUnit))}
    (hb : ∀ a b, p a = some b → (body a).run P w = .ok (if b then .yield (none, ()) else .done (some false, ())) w) :
    ∀ (l : List α) (b : Bool), allO p l = some b → (forIn l ((none, ()) : Option Bool × PUnit) (fun a _ => body a)).run P w = .ok ((if b then none else some false), ()) w
  | [], b, h => by
    have : some true = some b := h
    cases this
    simp only [List.forIn_nil, Sem.run_pure, if_true]
  | a :: l, b, h => by
    rw [allO_cons] at h
    rw [List.forIn_cons]
    cases hp : p a with
    | none => rw [hp] at h; cases h
    | some c =>
      rw [hp] at h
      have := hb a c hp
      simp only [Sem.run_bind, this, Result.andThen_ok]
      cases c with
      | true => simpa using forIn_allO hb l b h
      | false => cases h; simp [Sem.run_pure]
theorem eqStruct_run (d : Nat) (t : TypeId) (xs ys : Array Value) (fields : Array Field) (hu : P.underlying t = some (.struct fields)) (hs : P.stoodInAs t = []) (p : Field → Option Bool) (b : Bool)
   (hp : ∀ f c, p f = some c → f.name ≠ "_" → ∃ u v, (part f.type xs f.offset).run P w = .ok u w ∧ (part f.type ys f.offset).run P w = .ok v w ∧ (Op.equalIn d f.type u v).run P w = .ok c w) (hq : ∀ f c, p f = some c → f.name = "_" → c = true) (h : allO p fields.toList = some b) : (Op.equalIn (d+1) t (.agg xs) (.agg ys)).run P w = .ok b w := by
  have hsf : P.stoodInHeld t = false := by unfold Program.stoodInHeld; rw [hs]; rfl
  simp only [Op.equalIn, Sem.run_bind, rUnd hu, Result.andThen_ok, run_program, hsf, Bool.false_eq_true, if_false]
  have hl := forIn_allO (P := P) (w := w) (p := p) (body := fun f => if f.name ≠ "_" then do
                  let __do_lift ← part f.type xs f.offset
                  let __do_lift_1 ← part f.type ys f.offset
                  let __do_lift ← Op.equalIn d f.type __do_lift __do_lift_1
                  if (!__do_lift) = true then pure (ForInStep.done (some false, ()))
                    else pure (ForInStep.yield (none, ()))
                else pure (ForInStep.yield (none, ()))) (fun f c hc => by
      by_cases hn : f.name = "_"
      · rw [if_neg (by simpa using hn), hq f c hc hn]; rfl
      · obtain ⟨u, v, h1, h2, h3⟩ := hp f c hc hn
        rw [if_pos hn]
        simp only [Sem.run_bind, h1, h2, h3, Result.andThen_ok]
        cases c <;> rfl) fields.toList b h
  rw [Array.forIn_toList] at hl
  rw [hl, Result.andThen_ok]
  cases b <;> rfl
theorem eqArray_run (d : Nat) (t : TypeId) (xs ys : Array Value) (len el n : Nat) (hu : P.underlying t = some (.array len el)) (hsz : szOf P el = some n) (p : Nat → Option Bool) (b : Bool)
   (hp : ∀ i c, p i = some c → ∃ u v, (part el xs (i * n)).run P w = .ok u w ∧ (part el ys (i * n)).run P w = .ok v w ∧ (Op.equalIn d el u v).run P w = .ok c w) (h : allO p (List.range' 0 len) = some b) : (Op.equalIn (d+1) t (.agg xs) (.agg ys)).run P w = .ok b w := by
  simp only [Op.equalIn, Sem.run_bind, rUnd hu, Result.andThen_ok, rSize hsz]
  have hl := forIn_allO (P := P) (w := w) (p := p) (body := fun i => do
                  let __do_lift ← part el xs (i * n)
                  let __do_lift_1 ← part el ys (i * n)
                  let __do_lift ← Op.equalIn d el __do_lift __do_lift_1
                  if (!__do_lift) = true then pure (ForInStep.done (some false, ()))
                    else pure (ForInStep.yield (none, ()))) (fun f c hc => by
        obtain ⟨u, v, h1, h2, h3⟩ := hp f c hc
        simp only [Sem.run_bind, h1, h2, h3, Result.andThen_ok]
        cases c <;> rfl) _ b h
  rw [Std.Legacy.Range.forIn_eq_forIn_range']
  have e : List.range' ([:len] : Std.Legacy.Range).start ([:len] : Std.Legacy.Range).size ([:len] : Std.Legacy.Range).step = List.range' 0 len := by
    simp [Std.Legacy.Range.size]
  rw [e]
  rw [hl, Result.andThen_ok]
  cases b <;> rfl
theorem partsEq_run {eq : TypeId → Value → Value → Option Bool} {t : TypeId} {xs ys : Array Value} {off : Nat} {c : Bool} (h : partsEq P eq t xs.toList ys.toList off = some c) {d : Nat}
    (ih : ∀ u v, eq t u v = some c → (Op.equalIn d t (conc μ u) (conc μ v)).run P w = .ok c w) :
    ∃ u v, (part t (concA μ xs) off).run P w = .ok u w ∧ (part t (concA μ ys) off).run P w = .ok v w ∧ (Op.equalIn d t u v).run P w = .ok c w := by
  unfold partsEq at h
  split at h
  · rename_i u v h1 h2
    have e : ∀ a : Array Value, concA μ a = ⟨a.toList.map (conc μ)⟩ := by intro a; cases a; simp [concA, concL_map]
    rw [e, e]
    exact ⟨_, _, aPart_run h1 w, aPart_run h2 w, ih u v h⟩
  · cases h

theorem baBeq (a b : ByteArray) : (a == b) = (a.data.toList == b.data.toList) := by
  cases a with
  | mk a => cases b with
    | mk b =>
      show (a == b) = _
      cases a; cases b
      simp

theorem sameAddr_own (h : Rel G μ N0 σ w) {a b : Addr} {r s : Row} (ha : σ.objs.get a.block = some (.row r)) (hb : σ.objs.get b.block = some (.row s)) (hr : r.kind = .own) (hs : s.kind = .own)
    (hne : a.block ≠ b.block) (sa : a.spot = none) (sb : b.spot = none) : (sameAddr (μ.addr a) (μ.addr b)).run P w = .ok false w := by
  have hblk : (μ a.block).blk ≠ (μ b.block).blk := by
    intro e
    rcases h.sep a.block b.block (.row r) (.row s) hne ha hb trivial trivial e with h1 | h1
    · have := h1.1; rw [hr] at this; cases this
    · have := h1.1; rw [hs] at this; cases this
  obtain ⟨_, _, c1, fr1, k1⟩ := h.ob _ _ ha
  obtain ⟨_, _, c2, fr2, k2⟩ := h.ob _ _ hb
  obtain ⟨f1, _, _⟩ := k1.own hr
  obtain ⟨f2, _, _⟩ := k2.own hs
  subst f1; subst f2
  have e1 : (μ.addr a).block = (μ a.block).blk := rfl
  have e2 : (μ.addr b).block = (μ b.block).blk := rfl
  have fz1 : ∀ o, w.frozen? ⟨(μ a.block).blk, o, none⟩ = false := by intro o; unfold World.frozen?; simp only; rw [k1.heap]; simp
  have fz2 : ∀ o, w.frozen? ⟨(μ b.block).blk, o, none⟩ = false := by intro o; unfold World.frozen?; simp only; rw [k2.heap]; simp
  have fa : w.frozen? (μ.addr a) = false := by unfold World.frozen?; rw [e1, k1.heap]; simp
  have fb : w.frozen? (μ.addr b) = false := by unfold World.frozen?; rw [e2, k2.heap]; simp
  have sh1 : w.shape? (μ.addr a).block = some (r.elem, c1.size) := by unfold World.shape?; rw [e1, k1.heap]
  have sh2 : w.shape? (μ.addr b).block = some (s.elem, c2.size) := by unfold World.shape?; rw [e2, k2.heap]
  have hbf : ((μ.addr a).block == (μ.addr b).block) = false := by rw [e1, e2]; simpa using hblk
  unfold sameAddr
  simp only [hbf, Bool.false_eq_true, if_false, Sem.run_bind, run_frozen, fa, fb, Result.andThen_ok, Bool.and_self, noView, viewAt, run_shape, sh1, sh2, Option.isSome_some, if_true, Sem.run_pure, Option.isSome_none, mayBeOne, stringish]
  rw [e1, e2, fz1, fz2]
  simp [Sem.run_pure]

theorem aEq_run (h : Rel G μ N0 σ w) : ∀ (fuel d : Nat) (t : TypeId) (x y : Value) (b : Bool), aEq P σ fuel t x y = some b → fuel ≤ d → (Op.equalIn d t (conc μ x) (conc μ y)).run P w = .ok b w
  | 0, _, _, _, _, _, hb, _ => by rw [aEq_zero] at hb; cases hb
  | fuel + 1, 0, _, _, _, _, _, hd => by omega
  | fuel + 1, d + 1, t, x, y, b, hb, hd => by
    have ih := aEq_run h fuel d
    rw [aEq_succ] at hb
    split at hb
    · rename_i hu
      cases hb
      simp only [Op.equalIn, Sem.run_bind, rUnd hu, Result.andThen_ok, conc, Sem.run_pure]
    · rename_i hu
      split at hb
      · rename_i hk
        cases hb
        simp only [Op.equalIn, Sem.run_bind, rUnd hu, Result.andThen_ok, conc, hk, if_true, Sem.run_pure, ieq_eq]
      · cases hb
    · rename_i hu
      cases hb
      simp only [Op.equalIn, Sem.run_bind, rUnd hu, Result.andThen_ok, conc, Sem.run_pure, lEq_eq]
      congr 1
      exact (baBeq _ _).symm ▸ rfl
    · rename_i b' hu
      cases hb
      cases b' <;> simp only [Op.equalIn, Sem.run_bind, rUnd hu, Result.andThen_ok, conc, Sem.run_pure] <;> rfl
    · rename_i hu
      cases hb
      simp only [Op.equalIn, Sem.run_bind, rUnd hu, Result.andThen_ok, conc, Sem.run_pure]
    · rename_i e a b' hu
      split at hb
      · rename_i n hs sa sb
        have hsz : ∀ w, (Go.sizeOf e).run P w = .ok (n + 1) w := fun w => rSize hs w
        have start : (Op.equalIn (d + 1) t (conc μ (.pointer (some a))) (conc μ (.pointer (some b')))).run P w = (sameAddr (μ.addr a) (μ.addr b')).run P w := by
          simp only [Op.equalIn, Sem.run_bind, rUnd hu, Result.andThen_ok, conc, hsz]
          rw [if_pos (by omega)]
        rw [start]
        simp only [natBeq, cond_decide] at hb
        by_cases hbl : a.block = b'.block
        · rw [if_pos hbl] at hb; cases hb
          have : (μ.addr a).block = (μ.addr b').block := by simp [Mu.addr, hbl]
          simp only [sameAddr, this, beq_self_eq_true, if_true, Sem.run_pure]
          congr 1
          rw [Bool.eq_iff_iff]
          simp only [beq_iff_eq, decide_eq_true_eq, Mu.addr, Addr.mk.injEq, hbl, true_and, sa, sb, and_true]
          omega
        · rw [if_neg hbl] at hb
          split at hb
          · rename_i r s ha hbb
            split at hb
            · rename_i hr hs'
              cases hb
              exact sameAddr_own h ha hbb hr hs' hbl sa sb
            · cases hb
          · cases hb
      · cases hb
    · rename_i hu
      cases hb
      simp only [Op.equalIn, Sem.run_bind, rUnd hu, Result.andThen_ok, conc, Sem.run_pure]
    · rename_i hu
      cases hb
      simp only [Op.equalIn, Sem.run_bind, rUnd hu, Result.andThen_ok, conc, Sem.run_pure]
    · rename_i hu
      cases hb
      simp only [Op.equalIn, Sem.run_bind, rUnd hu, Result.andThen_ok, conc, Sem.run_pure]
    · rename_i tx vx ty vy hu
      simp only [natBeq, cond_decide] at hb
      by_cases ht : tx = ty
      · rw [if_pos ht] at hb
        cases hi : P.info? tx with
        | none => rw [hi] at hb; cases hb
        | some i =>
          rw [hi] at hb; simp only at hb
          cases hc : i.comparable with
          | false => rw [hc] at hb; cases hb
          | true =>
            rw [hc, cond_true] at hb
            have := ih tx vx vy b hb (by omega)
            simp only [Op.equalIn, Sem.run_bind, rUnd hu, Result.andThen_ok, conc, ht, ne_eq, not_true, if_false]
            rw [← ht]
            simp only [Sem.run_bind, rInfo hi, Result.andThen_ok, hc, Bool.not_true, Bool.false_eq_true, if_false]
            exact this
      · rw [if_neg ht] at hb; cases hb
        simp only [Op.equalIn, Sem.run_bind, rUnd hu, Result.andThen_ok, conc, ht, ne_eq, not_false_iff, if_true, Sem.run_pure]
    · rename_i l c b' l2 c2 hu
      cases hb
      cases b' <;> simp only [Op.equalIn, Sem.run_bind, rUnd hu, Result.andThen_ok, conc, Sem.run_pure] <;> rfl
    · rename_i hu
      cases hb
      simp only [Op.equalIn, Sem.run_bind, rUnd hu, Result.andThen_ok, conc, Sem.run_pure]
    · rename_i b' hu
      cases hb
      cases b' <;> simp only [Op.equalIn, Sem.run_bind, rUnd hu, Result.andThen_ok, conc, Sem.run_pure] <;> rfl
    · rename_i hu
      cases hb
      simp only [Op.equalIn, Sem.run_bind, rUnd hu, Result.andThen_ok, conc, Sem.run_pure]
    · rename_i hu
      cases hb
      simp only [Op.equalIn, Sem.run_bind, rUnd hu, Result.andThen_ok, conc, Sem.run_pure]
    · rename_i hu
      cases hb
      simp only [Op.equalIn, Sem.run_bind, rUnd hu, Result.andThen_ok, conc, Sem.run_pure]
    · rename_i hu
      cases hb
      simp only [Op.equalIn, Sem.run_bind, rUnd hu, Result.andThen_ok, conc, Sem.run_pure]
    · rename_i fields xs ys hu
      cases hs : (P.stoodInAs t).isEmpty with
      | false => rw [hs] at hb; cases hb
      | true =>
        rw [hs, cond_true] at hb
        refine eqStruct_run d t (concA μ xs) (concA μ ys) fields hu (List.isEmpty_iff.1 hs) _ b ?_ ?_ hb
        · intro f c hc hn
          have hnb : (f.name == "_") = false := by simpa using hn
          rw [hnb, cond_false] at hc
          exact partsEq_run hc fun u v huv => ih f.type u v c huv (by omega)
        · intro f c hc hn
          have hnb : (f.name == "_") = true := by simpa using hn
          rw [hnb, cond_true] at hc
          cases hc; rfl
    · rename_i len elem xs ys hu
      cases hs : szOf P elem with
      | none => rw [hs] at hb; cases hb
      | some n =>
        rw [hs] at hb; simp only at hb
        refine eqArray_run d t (concA μ xs) (concA μ ys) len elem n hu hs _ b ?_ hb
        intro i c hc
        exact partsEq_run hc fun u v huv => ih elem u v c huv (by omega)
    · cases hb
end Vai

namespace Vai
open Go Go.RowKit

variable {P : Program} {G : Sym} {μ : Mu} {N0 : Nat} {σ : Mem} {w : World}

theorem guard_no (P : Program) (w : World) (op : BinOp) (t : TypeId) (x y : Operand) (a b : Value) (h : op ≠ .eql ∧ op ≠ .neq) : (eqGuard op t x y a b).run P w = .ok () w := by
  unfold eqGuard
  cases op <;> first | rfl | exact absurd rfl h.1 | exact absurd rfl h.2
theorem op_eq_cases {op : BinOp} (h : ¬ (op ≠ .eql ∧ op ≠ .neq)) : op = .eql ∨ op = .neq := by
  cases op <;> first | exact .inl rfl | exact .inr rfl | (exfalso; apply h; constructor <;> intro e <;> cases e)
theorem guard_plain (P : Program) (w : World) (op : BinOp) (t : TypeId) (x y : Operand) (a b : Value) (h : ∀ c d, ¬ (a = .agg c ∧ b = .agg d)) (h2 : (a = .nilIface ∧ b = .nilIface) → (constOp x || constOp y) = true) : (eqGuard op t x y a b).run P w = .ok () w := by
  by_cases ho : op ≠ .eql ∧ op ≠ .neq
  · exact guard_no P w op t x y a b ho
  · unfold eqGuard
    rcases op_eq_cases ho with rfl | rfl
    all_goals
      cases a <;> cases b <;> first
        | rfl
        | (exact absurd ⟨rfl, rfl⟩ (h _ _))
        | (have := h2 ⟨rfl, rfl⟩
           cases x <;> cases y <;> first | rfl | (simp [constOp] at this))

theorem guard_agg (P : Program) (w : World) (op : BinOp) (t : TypeId) (x y : Operand) (c d : Array Value) (h : P.eqGuardType P.depth t = false) : (eqGuard op t x y (.agg c) (.agg d)).run P w = .ok () w := by
  by_cases ho : op ≠ .eql ∧ op ≠ .neq
  · exact guard_no P w op t x y _ _ ho
  · unfold eqGuard
    rcases op_eq_cases ho with rfl | rfl
    all_goals
      simp only [Bool.not_true, Bool.false_eq_true, if_false, Sem.run_bind, run_program, Result.andThen_ok, h, Bool.not_false, if_true]
      rfl

def prim : Value → Nat
  | .int _ _ => 1
  | .float _ _ => 2
  | .complex _ _ _ => 3
  | .string _ => 4
  | _ => 0
theorem prim_cases (x : Value) : prim x = 0 ∨ (∃ k n, x = .int k n) ∨ (∃ k b, x = .float k b) ∨ (∃ k a b, x = .complex k a b) ∨ (∃ s, x = .string s) := by
  cases x with
  | int k n => exact .inr (.inl ⟨k, n, rfl⟩)
  | float k b => exact .inr (.inr (.inl ⟨k, b, rfl⟩))
  | complex k a b => exact .inr (.inr (.inr (.inl ⟨k, a, b, rfl⟩)))
  | string s => exact .inr (.inr (.inr (.inr ⟨s, rfl⟩)))
  | _ => exact .inl rfl
theorem prim_int {y : Value} (h : prim y = 1) : ∃ k n, y = .int k n := by
  rcases prim_cases y with h1 | ⟨k, n, rfl⟩ | ⟨k, b, rfl⟩ | ⟨k, a, b, rfl⟩ | ⟨s, rfl⟩
  · omega
  · exact ⟨k, n, rfl⟩
  · simp [prim] at h
  · simp [prim] at h
  · simp [prim] at h
theorem prim_str {y : Value} (h : prim y = 4) : ∃ s, y = .string s := by
  rcases prim_cases y with h1 | ⟨k, n, rfl⟩ | ⟨k, b, rfl⟩ | ⟨k, a, b, rfl⟩ | ⟨s, rfl⟩
  · omega
  · simp [prim] at h
  · simp [prim] at h
  · simp [prim] at h
  · exact ⟨s, rfl⟩
theorem prim_conc (μ : Mu) (x : Value) (h : ∀ r, x ≠ .chan (some r)) : prim (conc μ x) = prim x := by
  cases x with
  | pointer a => cases a <;> rfl
  | slice a l c => cases a <;> rfl
  | map r => cases r <;> rfl
  | chan r =>
    cases r with
    | none => rfl
    | some r => exact absurd rfl (h r)
  | _ => rfl
theorem binOp_eql (t : TypeId) (x y : Value) (h : ¬ (prim x = prim y ∧ prim x ≠ 0)) :
    Go.binOp .eql t x y = (do pure (.bool (← Op.equal t x y))) ∧ Go.binOp .neq t x y = (do pure (.bool (!(← Op.equal t x y)))) := by
  cases x <;> cases y <;> first
    | exact ⟨rfl, rfl⟩
    | (exact absurd ⟨rfl, by simp [prim]⟩ h)

theorem conc_agg_inv {x : Value} {c : Array Value} (h : conc μ x = .agg c) : ∃ d, x = .agg d := by
  cases x with
  | agg d => exact ⟨d, rfl⟩
  | pointer a => cases a <;> simp [conc] at h
  | slice a l c => cases a <;> simp [conc] at h
  | map r => cases r <;> simp [conc] at h
  | chan r =>
    cases r with
    | none => simp [conc] at h
    | some r => rcases decV_cases (μ r).blk with ⟨k, n, e⟩ | ⟨s, e⟩ <;> simp [conc, e] at h
  | _ => simp [conc] at h
theorem conc_nilIface_inv {x : Value} (h : conc μ x = .nilIface) : x = .nilIface := by
  cases x with
  | nilIface => rfl
  | pointer a => cases a <;> simp [conc] at h
  | slice a l c => cases a <;> simp [conc] at h
  | map r => cases r <;> simp [conc] at h
  | chan r =>
    cases r with
    | none => simp [conc] at h
    | some r => rcases decV_cases (μ r).blk with ⟨k, n, e⟩ | ⟨s, e⟩ <;> simp [conc, e] at h
  | _ => simp [conc] at h

def optNX (o : Option Value) : NX :=
  match o with
  | some v => .val v
  | none => .panic
theorem aEq_float (P : Program) (σ : Mem) (n : Nat) (t : TypeId) (k : FloatKind) (b : Nat) (y : Value) : aEq P σ (n + 1) t (.float k b) y = none := by
  rw [aEq_succ]
  cases P.underlying t with
  | none => rfl
  | some d => cases d <;> cases y <;> rfl
theorem aEq_complex (P : Program) (σ : Mem) (n : Nat) (t : TypeId) (k : FloatKind) (a b : Nat) (y : Value) : aEq P σ (n + 1) t (.complex k a b) y = none := by
  rw [aEq_succ]
  cases P.underlying t with
  | none => rfl
  | some d => cases d <;> cases y <;> rfl
theorem aEq_chan (P : Program) (σ : Mem) (n : Nat) (t : TypeId) (r : Nat) (y : Value) : aEq P σ (n + 1) t (.chan (some r)) y = none := by
  rw [aEq_succ]
  cases P.underlying t with
  | none => rfl
  | some d => cases d <;> cases y <;> rfl
theorem aEq_chan2 (P : Program) (σ : Mem) (n : Nat) (t : TypeId) (x : Value) (r : Nat) : aEq P σ (n + 1) t x (.chan (some r)) = none := by
  rw [aEq_succ]
  cases P.underlying t with
  | none => rfl
  | some d =>
    cases x with
    | pointer p => cases p <;> cases d <;> rfl
    | slice p l c => cases p <;> cases d <;> rfl
    | map p => cases p <;> cases d <;> rfl
    | _ => cases d <;> rfl
theorem Comes1.ok (h : Rel G μ N0 σ w) {s : Sem Next} {r : Result Value} {o : Option Value} (hc : Comes1 r w o) (hs : s.run P w = r.andThen fun v w' => .ok (.value v) w')
    (hv : ∀ v, o = some v → constOk v = true) : OpOk P G μ N0 σ w s (optNX o, σ) := by
  cases o with
  | some v =>
    have hc' : r = .ok v w := hc
    subst hc'
    exact OpOk.pure h (by rw [hs, conc_const μ v (hv v rfl)]; rfl) (wf_const _ _ (hv v rfl))
  | none =>
    obtain ⟨x, w', e1, e2⟩ := hc
    subst e1
    exact OpOk.bounds h ⟨x, w', by rw [hs]; rfl, e2⟩

theorem aInt_const {op : BinOp} {k : IntKind} {a b : Int} {o : Option Value} (h : aInt op k a b = some o) (v : Value) (hv : o = some v) : constOk v = true := by
  subst hv
  unfold aInt at h
  cases op <;> simp only [Option.some.injEq, reduceCtorEq, Option.map_eq_some_iff] at h
  all_goals first
    | (subst h; rfl)
    | (cases hq : ieq b 0 <;> simp only [hq, cond_true, cond_false, Option.some.injEq, reduceCtorEq] at h; subst h; rfl)
    | (obtain ⟨v', h1, rfl⟩ := h
       unfold aBits at h1
       cases a <;> cases b <;> simp only [reduceCtorEq] at h1
       rename_i m n
       cases hq : (Nat.blt m (modK k) && Nat.blt n (modK k)) <;> simp only [hq, cond_true, cond_false, Option.some.injEq, reduceCtorEq] at h1
       subst h1; rfl)

theorem aBin_ok (h : Rel G μ N0 σ w) {op : BinOp} {t : TypeId} {xo yo : Operand} {x y : Value} {v : NX} (hb : aBin P σ op t xo yo x y = some v) :
    OpOk P G μ N0 σ w (do pure (.value (← (do eqGuard op t xo yo (conc μ x) (conc μ y); Go.binOp op t (conc μ x) (conc μ y))))) (v, σ) := by
  have start : ∀ {r : Result Value}, (eqGuard op t xo yo (conc μ x) (conc μ y)).run P w = .ok () w → (Go.binOp op t (conc μ x) (conc μ y)).run P w = r →
      (do pure (.value (← (do eqGuard op t xo yo (conc μ x) (conc μ y); Go.binOp op t (conc μ x) (conc μ y)))) : Sem Next).run P w = r.andThen fun v w' => .ok (.value v) w' := by
    intro r h1 h2
    simp only [Sem.run_bind, h1, Result.andThen_ok, h2, Sem.run_pure]
  unfold aBin at hb
  split at hb
  · rename_i k a k' b
    have hg := guard_plain P w op t xo yo (conc μ (.int k a)) (conc μ (.int k' b)) (by intro c d e; cases e.1) (by intro e; cases e.1)
    have sh : ∀ o, (op = .shl ∨ op = .shr) → aShift op k a b = some o → OpOk P G μ N0 σ w (do pure (.value (← (do eqGuard op t xo yo (conc μ (.int k a)) (conc μ (.int k' b)); Go.binOp op t (conc μ (.int k a)) (conc μ (.int k' b)))))) (optNX o, σ) := by
      intro o ho hsf
      refine Comes1.ok h (aShift_run P w op k k' a b o hsf ho t) (start hg rfl) ?_
      intro v hv; subst hv
      unfold aShift at hsf
      cases b <;> simp only [Option.some.injEq, reduceCtorEq] at hsf
      cases a <;> rcases ho with rfl | rfl <;> simp only [Option.some.injEq, reduceCtorEq] at hsf <;> subst hsf <;> rfl
    split at hb
    · cases hsf : aShift .shl k a b with
      | none => rw [hsf] at hb; cases hb
      | some o => rw [hsf] at hb; have := sh o (.inl rfl) hsf; cases o <;> cases hb <;> exact this
    · cases hsf : aShift .shr k a b with
      | none => rw [hsf] at hb; cases hb
      | some o => rw [hsf] at hb; have := sh o (.inr rfl) hsf; cases o <;> cases hb <;> exact this
    · rename_i n1 n2
      split at hb
      · rename_i hk
        subst hk
        cases hsf : aInt op k a b with
        | none => rw [hsf] at hb; cases hb
        | some o =>
          rw [hsf] at hb
          have := Comes1.ok (P := P) h (aInt_run P w op k a b o hsf (fun e => n1 e) (fun e => n2 e) t) (start hg rfl) (aInt_const hsf)
          cases o <;> cases hb <;> exact this
      · cases hb
  · rename_i a b
    cases hs : aStr op a b with
    | none => rw [hs] at hb; cases hb
    | some r =>
      rw [hs] at hb; cases hb
      have hg := guard_plain P w op t xo yo (conc μ (.string a)) (conc μ (.string b)) (by intro c d e; cases e.1) (by intro e; cases e.1)
      have hc : constOk r = true := by
        unfold aStr at hs
        cases op <;> simp only [Option.some.injEq, reduceCtorEq] at hs
        all_goals first
          | (subst hs; rfl)
          | (cases hq : Nat.ble (a.data.toList.length + b.data.toList.length) maxInt <;> rw [hq] at hs <;> cases hs; rfl)
      exact OpOk.pure h (by rw [start hg (aStr_run P w op a b r hs t), conc_const μ r hc]; rfl) (wf_const _ _ hc)
  · rename_i ni ns
    have eqs : ∀ b, aEq P σ 64 t x y = some b → (Op.equal t (conc μ x) (conc μ y)).run P w = .ok b w := fun b hbb => aEq_run h 64 Op.maxDepth t x y b hbb (by decide)
    have bo : ∀ b, aEq P σ 64 t x y = some b → (Go.binOp .eql t (conc μ x) (conc μ y)).run P w = .ok (.bool b) w ∧ (Go.binOp .neq t (conc μ x) (conc μ y)).run P w = .ok (.bool (!b)) w := by
      intro b hbb
      have he := eqs b hbb
      have e1 : Go.binOp .eql t (conc μ x) (conc μ y) = (do pure (.bool (← Op.equal t (conc μ x) (conc μ y)))) ∧ Go.binOp .neq t (conc μ x) (conc μ y) = (do pure (.bool (!(← Op.equal t (conc μ x) (conc μ y))))) := by
        refine binOp_eql t _ _ ?_
        rw [prim_conc μ x (by rintro r rfl; rw [aEq_chan] at hbb; cases hbb), prim_conc μ y (by rintro r rfl; rw [aEq_chan2] at hbb; cases hbb)]
        rintro ⟨e1, e2⟩
        rcases prim_cases x with h1 | ⟨k, n, rfl⟩ | ⟨k, b, rfl⟩ | ⟨k, a, b, rfl⟩ | ⟨s, rfl⟩
        · exact e2 h1
        · obtain ⟨k', n', rfl⟩ := prim_int e1.symm
          exact ni _ _ _ _ rfl rfl
        · rw [aEq_float] at hbb; cases hbb
        · rw [aEq_complex] at hbb; cases hbb
        · obtain ⟨s', rfl⟩ := prim_str e1.symm
          exact ns _ _ rfl rfl
      rw [e1.1, e1.2]
      simp only [Sem.run_bind, he, Result.andThen_ok, Sem.run_pure, and_self]
    have gd : aGuard P t xo yo x y = true → (eqGuard op t xo yo (conc μ x) (conc μ y)).run P w = .ok () w := by
      intro hgd
      by_cases hagg : ∃ c d, x = .agg c ∧ y = .agg d
      · obtain ⟨c, d, rfl, rfl⟩ := hagg
        have hgd : P.eqGuardType P.depth t = false := by simpa [aGuard] using hgd
        rw [conc_aggA, conc_aggA]
        exact guard_agg P w op t xo yo _ _ hgd
      · refine guard_plain P w op t xo yo _ _ ?_ ?_
        · intro c d e
          obtain ⟨c', hc'⟩ := conc_agg_inv e.1
          obtain ⟨d', hd'⟩ := conc_agg_inv e.2
          exact hagg ⟨c', d', hc', hd'⟩
        · intro e
          have e1 := conc_nilIface_inv e.1
          have e2 := conc_nilIface_inv e.2
          subst e1; subst e2
          exact hgd
    split at hb
    · cases hgd : aGuard P t xo yo x y with
      | false => rw [hgd] at hb; cases hb
      | true =>
        rw [hgd, cond_true] at hb
        cases he : aEq P σ 64 t x y with
        | none => rw [he] at hb; cases hb
        | some b =>
          rw [he] at hb; cases hb
          exact OpOk.pure h (start (gd hgd) (bo b he).1) trivial
    · cases hgd : aGuard P t xo yo x y with
      | false => rw [hgd] at hb; cases hb
      | true =>
        rw [hgd, cond_true] at hb
        cases he : aEq P σ 64 t x y with
        | none => rw [he] at hb; cases hb
        | some b =>
          rw [he] at hb; cases hb
          exact OpOk.pure h (start (gd hgd) (bo b he).2) trivial
    · cases hb
end Vai

namespace Vai
open Go Go.RowKit

variable {P : Program} {G : Sym} {μ : Mu} {N0 : Nat} {σ : Mem} {w : World}

theorem load_bytes_core (P : Program) (w : World) : ∀ (ns : List Int) (a : Addr) (acc : ByteArray), (∀ j v, (ns.map (Value.int .u8))[j]? = some v → w.cell? (a.add j) = some v) →
    (Go.loadBytes a acc ns.length).run P w = .ok (ns.foldl (fun r n => r.push n.toNat.toUInt8) acc) w
  | [], a, acc, _ => rfl
  | n :: ns, a, acc, h => by
    have h0 := h 0 (.int .u8 n) rfl
    rw [show a.add 0 = a from by simp [Addr.add]] at h0
    have hl : (Go.load a).run P w = .ok (.int .u8 n) w := by
      simp [Go.load, Sem.run, h0]
    show (do
      match ← Go.load a with
      | .int .u8 b => Go.loadBytes (a.add 1) (acc.push b.toNat.toUInt8) ns.length
      | _ => stuck "a byte variable that holds no byte" : Sem ByteArray).run P w = _
    simp only [Sem.run_bind, hl, Result.andThen_ok]
    rw [load_bytes_core P w ns (a.add 1) _ (fun j v hj => by
      have := h (j + 1) v (by simpa using hj)
      have e : (a.add 1).add j = a.add (j + 1) := by
        unfold Addr.add
        by_cases hj : j = 0
        · subst hj; simp
        · simp [hj]; omega
      rw [e]; exact this)]
    rfl
theorem push_fold : ∀ (ns : List Int) (s : ByteArray), ns.foldl (fun r n => r.push n.toNat.toUInt8) s = ⟨⟨s.data.toList ++ ns.map fun n => UInt8.ofNat n.toNat⟩⟩
  | [], s => ba_ext (by simp)
  | n :: ns, s => by rw [List.foldl_cons, push_fold ns]; exact ba_ext (by simp)

theorem shape_of {id : Nat} {r : Row} {c : Array Value} {fr : Nat × Nat} (hr : RowOk μ N0 w id r c fr) : w.shape? (μ id).blk = some (r.elem, c.size) := by
  unfold World.shape?; rw [hr.heap]

theorem aPtrConv_run (h : Rel G μ N0 σ w) {s d : TypeId} {x : Value} {v : NX} (hb : aPtrConv P σ s d x = some v) : v = .val x ∧ (Go.convert s d (conc μ x)).run P w = .ok (conc μ x) w := by
  unfold aPtrConv at hb
  split at hb
  · rename_i a
    split at hb
    · rename_i r hsp ho
      obtain ⟨hid, hwf, c, fr, hr⟩ := h.ob _ _ ho
      have hsh := shape_of hr
      have hab : (μ.addr a).block = (μ a.block).blk := rfl
      have hview : (viewAt (μ a.block).blk).run P w = .ok none w := by
        simp [viewAt, hsh]
      split at hb
      · rename_i t hs hd
        split at hb
        · rename_i k hz
          simp only [natBlt, cond_decide] at hb
          by_cases hlt : a.off < r.n
          · rw [if_pos hlt] at hb; cases hb
            refine ⟨rfl, ?_⟩
            have hsz := hr.size
            have hin : ¬ ((μ.addr a).off ≥ c.size) := by rw [Mu.addr_none _ _ hsp]; simp only; omega
            have hci : (cellsIn (μ a.block).blk).run P w = .ok (some c.size) w := by simp [cellsIn, hsh]
            simp [Go.convert, rUnd hs, rUnd hd, Conv.unsafePointer, Conv.seenAt, conc_ptr, hview, hab, hci, hin, rSize hz]
          · rw [if_neg hlt] at hb; cases hb
        · cases hb
      · rename_i u hs hd
        split at hb
        · rename_i k hk hz
          cases hl : liesAt P P.depth r.elem (r.n / P.cellsOf r.elem) a.off u 1 with
          | false => rw [hl] at hb; cases hb
          | true =>
            rw [hl] at hb; cases hb
            refine ⟨rfl, ?_⟩
            obtain ⟨hfr, hsh0, hcs⟩ := hr.own hk
            have hoff : (μ.addr a).off = a.off := by rw [Mu.addr_none _ _ hsp]; simp only; omega
            have hva : (variablesAt (μ.addr a) u 1).run P w = .ok true w := by
              simp [variablesAt, hab, hsh, hoff, hcs, hl]
            simp [Go.convert, rUnd hs, rUnd hd, Conv.unsafePointer, Conv.seenAt, conc_ptr, hview, hab, rSize hz, hva]
        · cases hb
      · cases hb
    · cases hb
  · cases hb
theorem aConv_ok (h : Rel G μ N0 σ w) {s d : TypeId} {x : Value} {r : NX × Mem} (hb : aConv P σ s d x = some r) (hx : wf σ.nxt x) :
    OpOk P G μ N0 σ w (do pure (.value (← Go.convert s d (conc μ x)))) r := by
  unfold aConv at hb
  cases hp : aPtrConv P σ s d x with
  | none => rw [hp] at hb; exact aConvert_ok h hb
  | some v =>
    rw [hp] at hb; cases hb
    obtain ⟨rfl, hr⟩ := aPtrConv_run (P := P) h hp
    refine OpOk.pure h ?_ hx
    simp only [Sem.run_bind, hr, Result.andThen_ok, Sem.run_pure]

theorem aUnsafeSliceData_ok (h : Rel G μ N0 σ w) {x : Value} {v : NX} (hb : aUnsafeSliceData σ x = some v) (hx : wf σ.nxt x) (ts : Array TypeId) (ty : TypeId) :
    OpOk P G μ N0 σ w (do pure (.value (← Builtin.unsafeSliceData_ ts ty #[conc μ x]))) (v, σ) := by
  unfold aUnsafeSliceData at hb
  split at hb
  · cases hb
    refine OpOk.pure h ?_ trivial
    rfl
  · rename_i a n c
    have key : μ.cap a.block c ≠ 0 → OpOk P G μ N0 σ w (do pure (.value (← Builtin.unsafeSliceData_ ts ty #[conc μ (.slice (some a) n c)]))) (.val (.pointer (some a)), σ) := by
      intro hc
      refine OpOk.pure h ?_ hx
      rw [conc_slice]
      simp only [Sem.run_bind, Lib.run_unsafeSliceData_row w ts ty (μ.addr a) n _ hc, Result.andThen_ok, Sem.run_pure, conc_ptr]
    simp only [natBlt, natBeq, cond_decide] at hb
    by_cases hc : c < HALF
    · rw [if_pos hc] at hb
      by_cases h0 : c = 0
      · rw [if_pos h0] at hb; cases hb
      · rw [if_neg h0] at hb; cases hb
        exact key (by rw [cap_small _ _ _ hc]; exact h0)
    · rw [if_neg hc] at hb
      split at hb
      · rename_i r ho
        split at hb
        · rename_i hk
          obtain ⟨hid, hwf, cc, fr, hr⟩ := h.ob _ _ ho
          have hcap := (hr.cap hk).1
          by_cases hq : a.off = (HUGE - c) * r.esz ∧ a.off < r.n
          · rw [decide_eq_true hq.1, decide_eq_true hq.2] at hb
            cases hb
            refine key ?_
            unfold Mu.cap
            rw [if_neg hc]
            intro e
            have h1 : (μ a.block).ecap ≤ HUGE - c := by omega
            have h2 : (μ a.block).ecap * r.esz ≤ (HUGE - c) * r.esz := Nat.mul_le_mul_right _ h1
            have h3 := hq.2
            rw [hq.1] at h3
            omega
          · have : (decide (a.off = (HUGE - c) * r.esz) && decide (a.off < r.n)) = false := by
              rw [Bool.eq_false_iff]; intro e; apply hq; simpa using e
            rw [this] at hb; cases hb
        · cases hb
      · cases hb
  · cases hb

theorem liesAt_off {e : TypeId} (hc : P.cellsOf e = 1) (count off n : Nat) (hn : off + n ≤ count) : liesAt P P.depth e count off e n = true := by
  have hd : P.depth = (2 * (P.types.size + Made.depth) + 1) + 1 := rfl
  rw [hd]
  simp only [liesAt, Bool.or_eq_true]
  left
  rw [hd]
  simp [rowAt, hc, hn, sameLayout, Nat.mod_one]

/-- A row whose bytes a string holds: it is no longer written to. -/
theorem Rel.freezeRo (h : Rel G μ N0 σ w) {id : Nat} {r : Row} (ho : σ.objs.get id = some (.row r)) (hk : r.kind ≠ .ro) (off n : Nat) (hn : n ≠ 0) :
    Rel G μ N0 ⟨σ.nxt, σ.objs.set id (.row { r with kind := .ro })⟩ (w.freeze ⟨(μ id).blk, off, none⟩ n) ∧
    Ext μ σ w μ ⟨σ.nxt, σ.objs.set id (.row { r with kind := .ro })⟩ (w.freeze ⟨(μ id).blk, off, none⟩ n) := by
  obtain ⟨hid, hwf, c, fr, hr⟩ := h.ob _ _ ho
  have hcap : id < 1099511627776 := Nat.lt_of_lt_of_le hid h.lim
  have get : ∀ j, (σ.objs.set id (.row { r with kind := .ro })).get j = if j = id then some (.row { r with kind := .ro }) else σ.objs.get j := fun j => T.get_set _ _ _ _ hcap
  obtain ⟨fr', hp⟩ : ∃ fr', ∀ j, (w.freeze ⟨(μ id).blk, off, none⟩ n).heap[j]? = if j = (μ id).blk then some (.cells c r.elem fr') else w.heap[j]? := by
    obtain ⟨lo, hi⟩ := fr
    refine ⟨if lo == hi then (off, off + n) else (min lo off, max hi (off + n)), fun j => ?_⟩
    unfold World.freeze
    rw [if_neg hn]
    simp only [Array.getElem?_modify]
    by_cases hj : (μ id).blk = j
    · subst hj; simp [hr.heap]
    · rw [if_neg hj, if_neg (fun e => hj e.symm)]
  have hsz : (w.freeze ⟨(μ id).blk, off, none⟩ n).heap.size = w.heap.size := by unfold World.freeze; rw [if_neg hn]; simp
  have hos : (w.freeze ⟨(μ id).blk, off, none⟩ n).os = w.os ∧ (w.freeze ⟨(μ id).blk, off, none⟩ n).tape = w.tape ∧ (w.freeze ⟨(μ id).blk, off, none⟩ n).output = w.output := by
    unfold World.freeze; rw [if_neg hn]; exact ⟨rfl, rfl, rfl⟩
  have alone : ∀ j p, j ≠ id → σ.objs.get j = some p → p.live → (μ j).blk = (μ id).blk → ∃ s, p = .row s ∧ s.kind = .ro := by
    intro j p hne hj hl e
    rcases h.sep j id p _ hne hj ho hl trivial e with h1 | h1
    · cases p <;> simp only [Shares] at h1
      exact ⟨_, rfl, h1.1⟩
    · cases p <;> simp only [Shares] at h1
      exact absurd h1.1 hk
  refine ⟨⟨h.glob, h.gnxt, h.lim, ?_, ?_, by rw [hsz]; exact h.base⟩, ⟨fun _ _ => rfl, Nat.le_refl _, hos.1, hos.2.1, hos.2.2, by rw [hsz]; exact Nat.le_refl _, ?_, ?_, ?_⟩⟩
  · intro j p hj
    rw [get] at hj
    by_cases e : j = id
    · rw [if_pos e] at hj; cases hj; subst e
      exact ⟨hid, hwf, c, fr', ⟨by rw [hp, if_pos rfl], hr.size, hr.cell, fun e => absurd rfl e, (fun e => by cases e), fun e => absurd rfl e, (fun e => by cases e)⟩⟩
    · rw [if_neg e] at hj
      obtain ⟨h1, h2, h3⟩ := h.ob j p hj
      refine ⟨h1, h2, ?_⟩
      by_cases hl : p.live
      · by_cases hb : (μ j).blk = (μ id).blk
        · obtain ⟨s, rfl, hs⟩ := alone j p e hj hl hb
          obtain ⟨c2, fr2, hr2⟩ := h3
          have hcc := hr2.heap
          rw [hb, hr.heap] at hcc
          simp only [Option.some.injEq, Obj.cells.injEq] at hcc
          obtain ⟨e1, e2, e3⟩ := hcc
          subst e1
          exact ⟨c, fr', ⟨by rw [hp, if_pos hb, e2], hr2.size, hr2.cell, fun e => absurd hs e, (fun e => by rw [hs] at e; cases e), fun e => absurd hs e, (fun e => by rw [hs] at e; cases e)⟩⟩
        · exact ObOk.keep (w := w) (fun _ _ => rfl) h1 h2 (by rw [hp, if_neg hb]) h3
      · cases p <;> simp [Ob.live] at hl; trivial
  · intro i j p q hij hi hj li lj hb
    rw [get] at hi hj
    by_cases ei : i = id
    · rw [if_pos ei] at hi; cases hi
      rw [if_neg (fun e => hij (ei.trans e.symm))] at hj
      rw [ei] at hb
      obtain ⟨s, rfl, hs⟩ := alone j q (fun e => hij (ei.trans e.symm)) hj lj hb.symm
      exact .inl ⟨rfl, .inl hs⟩
    · rw [if_neg ei] at hi
      by_cases ej : j = id
      · rw [if_pos ej] at hj; cases hj
        rw [ej] at hb
        obtain ⟨s, rfl, hs⟩ := alone i p ei hi li hb
        exact .inl ⟨hs, .inl rfl⟩
      · rw [if_neg ej] at hj; exact h.sep i j p q hij hi hj li lj hb
  · intro b hb hn2
    rw [hp, if_neg]
    intro e
    exact hn2 id _ ho hk e.symm
  · intro j p hj hm
    right
    rw [get] at hj
    by_cases e : j = id
    · rw [if_pos e] at hj; cases hj; exact absurd rfl hm
    · rw [if_neg e] at hj; exact ⟨j, p, hj, hm, rfl⟩
  · intro j p hj hm
    right
    rw [get] at hj
    by_cases e : j = id
    · exact ⟨id, _, ho, trivial, by rw [e]⟩
    · rw [if_neg e] at hj; exact ⟨j, p, hj, hm, rfl⟩

theorem aUnsafeString_ok (h : Rel G μ N0 σ w) {argTypes : Array TypeId} {p n : Value} {r : NX × Mem} (hb : aUnsafeString P σ argTypes p n = some r) (ty : TypeId) :
    OpOk P G μ N0 σ w (do pure (.value (← Builtin.unsafeString_ argTypes ty #[conc μ p, conc μ n]))) r := by
  unfold aUnsafeString at hb
  split at hb
  · rename_i p n
    cases hpt : argTypes[0]? with
    | none => rw [hpt] at hb; cases hb
    | some pt =>
      rw [hpt] at hb
      simp only [natBeq, natBle] at hb
      have hmax : IntKind.i64.max = 9223372036854775807 := rfl
      have hneg : ¬ (Int.ofNat n) < 0 := by simp
      by_cases hn0 : n = 0
      · subst hn0
        cases hb
        refine OpOk.pure h ?_ trivial
        cases p with
        | none =>
          have hdef : Builtin.unsafeString_ argTypes ty #[conc μ (.pointer none), conc μ (.int .i64 (.ofNat 0))] = (do
              let n ← asInt (.int .i64 (.ofNat 0))
              let some pt := argTypes[0]? | stuck "unsafe.String: no argument types"
              if n < 0 then runtimePanic (.error "unsafe.String: len out of range")
              if n > IntKind.i64.max then unsupported (.unsafePointer "String: a length above the largest int")
              if n = 0 then pure (.string .empty)
              else runtimePanic (.error "unsafe.String: ptr is nil and len is not zero")) := rfl
          rw [hdef, hpt]
          simp [asInt, asIntOf, hmax]
          rfl
        | some a =>
          have hdef : Builtin.unsafeString_ argTypes ty #[conc μ (.pointer (some a)), conc μ (.int .i64 (.ofNat 0))] = (do
              let n ← asInt (.int .i64 (.ofNat 0))
              let some pt := argTypes[0]? | stuck "unsafe.String: no argument types"
              if n < 0 then runtimePanic (.error "unsafe.String: len out of range")
              if n > IntKind.i64.max then unsupported (.unsafePointer "String: a length above the largest int")
              if n = 0 then pure (.string .empty)
              else if ← variablesAt (μ.addr a) (← elemOf pt) n.toNat then do
                let s ← loadBytes (μ.addr a) .empty n.toNat
                freeze (μ.addr a) n.toNat
                pure (.string s)
              else unsupported (.unsafePointer "String: not so many bytes at ptr")) := rfl
          rw [hdef, hpt]
          simp [asInt, asIntOf, hmax]
          rfl
      · rw [decide_eq_false hn0] at hb
        simp only [cond_false] at hb
        split at hb
        · rename_i a e hu
          split at hb
          · rename_i rr hsp ho
            have hb : cond (decide (rr.elem = e) && (decide (P.cellsOf e = 1) && decide (n ≤ 1048576))) (match σ.cells a n with
              | some l => match bytesOf l with
                | some bs => some (NX.val (.string ⟨⟨bs⟩⟩), (⟨σ.nxt, σ.objs.set a.block (.row { rr with kind := .ro })⟩ : Mem))
                | none => none
              | none => none) none = some r ∧ rr.kind ≠ .ro := by
              cases hk : rr.kind <;> rw [hk] at hb <;> first | (cases hb; done) | exact ⟨hb, fun e => by cases e⟩
            obtain ⟨hb, hk⟩ := hb
            by_cases hc : rr.elem = e ∧ P.cellsOf e = 1 ∧ n ≤ 1048576
            · obtain ⟨c1, c2, c3⟩ := hc
              rw [decide_eq_true c1, decide_eq_true c2, decide_eq_true c3] at hb
              simp only [Bool.and_self, cond_true] at hb
              cases hcl : σ.cells a n with
              | none => rw [hcl] at hb; cases hb
              | some l =>
                rw [hcl] at hb; simp only at hb
                cases hby : bytesOf l with
                | none => rw [hby] at hb; cases hb
                | some bs =>
                  rw [hby] at hb; cases hb
                  obtain ⟨hid, hwf, c, fr, hr⟩ := h.ob _ _ ho
                  obtain ⟨g1, g2⟩ := h.freezeRo ho hk ((μ a.block).sh + a.off) n hn0
                  have had : μ.addr a = ⟨(μ a.block).blk, (μ a.block).sh + a.off, none⟩ := Mu.addr_none _ _ hsp
                  refine ⟨μ, _, g1, g2, ?_, trivial⟩
                  have hsh := shape_of hr
                  obtain ⟨s1, s2⟩ := Mem.cells_spec hcl
                  -- the last byte lies in the row
                  have hlast : a.off + n ≤ rr.n := by
                    unfold Mem.cells at hcl
                    rw [natBeq, cond_decide, if_neg hn0, hsp, ho] at hcl
                    simp only [natBle, cond_decide] at hcl
                    by_cases hle : a.off + n ≤ rr.n
                    · exact hle
                    · rw [if_neg hle] at hcl; cases hcl
                  have hva : (variablesAt (μ.addr a) e n).run P w = .ok true w := by
                    have hl := liesAt_off (P := P) c2 (c.size / P.cellsOf e) ((μ a.block).sh + a.off) n (by rw [c2, Nat.div_one]; have := hr.size; omega)
                    rw [had]
                    simp [variablesAt, hsh, c1, hl]
                  obtain ⟨t1, ns, rfl, rfl⟩ := bytesOf_spec l bs hby
                  rw [List.length_map] at s1 t1
                  have hld : (loadBytes (μ.addr a) .empty n).run P w = .ok ⟨⟨ns.map fun n => UInt8.ofNat n.toNat⟩⟩ w := by
                    have := load_bytes_core P w ns (μ.addr a) .empty (fun j v hj => by
                      have hj2 := hj
                      rw [List.getElem?_map] at hj
                      cases hq : ns[j]? with
                      | none => rw [hq] at hj; cases hj
                      | some m =>
                        rw [hq] at hj; cases hj
                        rw [Mu.addr_add _ _ _ hsp]
                        exact (h.cell (s2 j _ hj2)).1)
                    rw [s1, push_fold] at this
                    exact this
                  have hun : (Go.elemOf pt).run P w = .ok e w := by simp [elemOf, rUnd hu]
                  have h63 : ¬ (9223372036854775807 : Int) < (Int.ofNat n) := by simp only [Int.ofNat_eq_natCast]; omega
                  have hne : ¬ (Int.ofNat n = 0) := by simp only [Int.ofNat_eq_natCast]; omega
                  have hdef : Builtin.unsafeString_ argTypes ty #[conc μ (.pointer (some a)), conc μ (.int .i64 (.ofNat n))] = (do
                      let n ← asInt (.int .i64 (.ofNat n))
                      let some pt := argTypes[0]? | stuck "unsafe.String: no argument types"
                      if n < 0 then runtimePanic (.error "unsafe.String: len out of range")
                      if n > IntKind.i64.max then unsupported (.unsafePointer "String: a length above the largest int")
                      if n = 0 then pure (.string .empty)
                      else if ← variablesAt (μ.addr a) (← elemOf pt) n.toNat then do
                        let s ← loadBytes (μ.addr a) .empty n.toNat
                        freeze (μ.addr a) n.toNat
                        pure (.string s)
                      else unsupported (.unsafePointer "String: not so many bytes at ptr")) := rfl
                  rw [hdef, hpt]
                  simp only [Sem.run_bind, asInt, asIntOf, Sem.run_pure, Result.andThen_ok, hneg, if_false, hmax, gt_iff_lt, h63, hne, hun, show (Int.ofNat n).toNat = n from rfl, hva, if_true, hld, run_freeze]
                  rw [had]
                  rfl
            · have : (decide (rr.elem = e) && (decide (P.cellsOf e = 1) && decide (n ≤ 1048576))) = false := by
                rw [Bool.eq_false_iff]; intro e; apply hc; simpa using e
              rw [this] at hb; cases hb
          · cases hb
        · cases hb
  · cases hb
end Vai

namespace Vai
open Go Go.RowKit

variable {P : Program} {G : Sym} {μ : Mu} {N0 : Nat} {σ : Mem} {w : World}

theorem keySame_now {kind : TypeDesc} {a b : Value} {r : Bool} (h : keySame kind a b = some r) : Instr.sameNow kind (conc μ a) (conc μ b) = some r := by
  unfold keySame at h
  split at h
  · rename_i k m k' n
    simp only [conc, Instr.sameNow]
    by_cases e : k = k'
    · rw [if_pos e] at h ⊢; rw [← h, ieq_eq]
    · rw [if_neg e] at h; cases h
  · rename_i s t
    simp only [conc, Instr.sameNow]
    rw [← h, lEq_eq]
    congr 1
    by_cases e : s = t
    · subst e; rw [(Go.MapKept.bytes_beq s s).2 rfl]; simp
    · have : ¬ s.data.toList = t.data.toList := fun e2 => e (by
        cases s; cases t; congr 1; exact Array.ext' e2)
      have h1 : (s == t) = false := by rw [Bool.eq_false_iff]; exact fun h => e ((Go.MapKept.bytes_beq s t).1 h)
      rw [h1, beq_eq_false_iff_ne.2 this]
  · cases h

theorem aFind_nil (kind : TypeDesc) (k : Value) (i : Nat) : aFind kind k [] i = some none := rfl
theorem aFind_cons (kind : TypeDesc) (k : Value) (e : MapEntry) (es : List MapEntry) (i : Nat) : aFind kind k (e :: es) i = (match keySame kind k e.key with
      | some true => some (some (i, e.val))
      | some false => aFind kind k es (i + 1)
      | none => none) := rfl

theorem aFind_now {kind : TypeDesc} {k : Value} : ∀ (es : List MapEntry) (i : Nat) (r : Option (Nat × Value)), aFind kind k es i = some r →
    Instr.findNow kind (conc μ k) (es.map (concE μ)) i = some (r.map fun p => (p.1, conc μ p.2)) ∧ ∀ p, r = some p → ∃ e, es[p.1 - i]? = some e ∧ i ≤ p.1 ∧ e.val = p.2 ∧ keySame kind k e.key = some true
  | [], i, r, h => by rw [aFind_nil] at h; cases h; exact ⟨rfl, fun p hp => by cases hp⟩
  | e :: es, i, r, h => by
    rw [aFind_cons] at h
    cases hk : keySame kind k e.key with
    | none => rw [hk] at h; cases h
    | some b =>
      rw [hk] at h
      have hn : Instr.sameNow kind (conc μ k) (concE μ e).key = some b := keySame_now hk
      simp only [List.map_cons, Instr.findNow, hn]
      cases b with
      | true => cases h; exact ⟨rfl, fun p hp => by cases hp; exact ⟨e, by simp, Nat.le_refl _, rfl, hk⟩⟩
      | false =>
        obtain ⟨h1, h2⟩ := aFind_now es (i + 1) r h
        refine ⟨h1, fun p hp => ?_⟩
        obtain ⟨e', k1, k2, k3, k4⟩ := h2 p hp
        exact ⟨e', by rw [show p.1 - i = (p.1 - (i + 1)) + 1 from by omega, List.getElem?_cons_succ]; exact k1, by omega, k3, k4⟩

theorem checkKey_run {kt : TypeId} {kind : TypeDesc} (hu : P.underlying kt = some kind) {k k2 : Value} {b : Bool} (hk : keySame kind k k2 = some b) (em : Bool) (n : Nat) (v : Value) :
    (Instr.checkKey em (n + 1) kt v).run P w = .ok () w := by
  unfold keySame at hk
  unfold Instr.checkKey
  simp only [Sem.run_bind, rUnd hu, Result.andThen_ok]
  split at hk
  · simp only [Sem.run_pure]
  · simp only [Sem.run_pure]
  · cases hk

theorem findKey_run {kt : TypeId} {kind : TypeDesc} (hu : P.underlying kt = some kind) {k : Value} {es : List MapEntry} {r : Option (Nat × Value)} (hf : aFind kind k es 0 = some r) :
    (Instr.findKey kt (conc μ k) (es.map (concE μ))).run P w = .ok (r.map fun p => (p.1, conc μ p.2)) w := by
  unfold Instr.findKey
  simp only [Sem.run_bind, rUnd hu, Result.andThen_ok, (aFind_now (μ := μ) es 0 r hf).1, Sem.run_pure]

theorem aLookup_ok (h : Rel G μ N0 σ w) {t : TypeId} {x ix : Value} {ok : Bool} {nx : NX} (hb : aLookup P σ t x ix ok = some nx) :
    OpOk P G μ N0 σ w (do pure (.value (← Instr.lookup t (conc μ x) (conc μ ix) ok))) (nx, σ) := by
  unfold aLookup at hb
  cases hu : P.underlying t with
  | none => rw [hu] at hb; cases hb
  | some d =>
    rw [hu] at hb
    cases d <;> simp only at hb <;> (try (cases hb; done))
    rename_i key elem
    cases hk : P.underlying key with
    | none => rw [hk] at hb; cases hb
    | some kind =>
      rw [hk] at hb; simp only at hb
      -- the entries
      have main : ∀ es : List MapEntry, (∀ e ∈ es, wf σ.nxt e.val) →
          (Instr.lookup t (conc μ x) (conc μ ix) ok).run P w = (do
            Instr.checkKey (es.map (concE μ)).toArray.isEmpty 10000 key (conc μ ix)
            let (v, ok') ← match ← Instr.findKey key (conc μ ix) (es.map (concE μ)) with
              | some (_, v) => pure (v, true)
              | none => pure (← zeroValue elem, false)
            pure (if ok then .tuple #[v, .bool ok'] else v) : Sem Value).run P w →
          (match keySame kind ix ix with
            | none => none
            | some _ => match aFind kind ix es 0 with
              | none => none
              | some (some (_, v)) => some (NX.val (cond ok (.tuple #[v, .bool true]) v))
              | some none => match zeroOf P elem with
                | none => none
                | some z => some (.val (cond ok (.tuple #[z, .bool false]) z))) = some nx →
          OpOk P G μ N0 σ w (do pure (.value (← Instr.lookup t (conc μ x) (conc μ ix) ok))) (nx, σ) := by
        intro es hes hrun hb
        cases hkk : keySame kind ix ix with
        | none => rw [hkk] at hb; cases hb
        | some b =>
          rw [hkk] at hb; simp only at hb
          cases hf : aFind kind ix es 0 with
          | none => rw [hf] at hb; cases hb
          | some r =>
            rw [hf] at hb
            have h1 : ∀ em, (Instr.checkKey em 10000 key (conc μ ix)).run P w = .ok () w := fun em => checkKey_run hk hkk em 9999 _
            have h2 := findKey_run (w := w) (μ := μ) hk hf
            cases r with
            | some p =>
              obtain ⟨i, v⟩ := p
              simp only at hb; cases hb
              obtain ⟨e, g1, _, g3, _⟩ := (aFind_now (μ := μ) es 0 _ hf).2 _ rfl
              have hv : wf σ.nxt v := by
                have := hes e (List.mem_of_getElem? g1)
                rw [g3] at this; exact this
              refine OpOk.pure h ?_ ?_
              · simp only [Sem.run_bind, hrun, Result.andThen_ok, h1, h2, Option.map_some, Sem.run_pure]
                cases ok <;> rfl
              · cases ok
                · exact hv
                · exact ⟨hv, trivial, trivial⟩
            | none =>
              simp only at hb
              cases hz : zeroOf P elem with
              | none => rw [hz] at hb; cases hb
              | some z =>
                rw [hz] at hb; simp only at hb; cases hb
                have hzc := zeroOf_const hz
                refine OpOk.pure h ?_ ?_
                · simp only [Sem.run_bind, hrun, Result.andThen_ok, h1, h2, Option.map_none, Sem.run_pure, rZero hz]
                  cases ok
                  · simp [conc_const μ z hzc]
                  · show Result.ok (Next.value (.tuple #[z, .bool false])) w = .ok (.value (.tuple #[conc μ z, .bool false])) w
                    rw [conc_const μ z hzc]
                · cases ok
                  · exact wf_const _ _ hzc
                  · exact ⟨wf_const _ _ hzc, trivial, trivial⟩
      cases x with
      | map m =>
        cases m with
        | none => exact main [] (fun e he => by cases he) (by simp only [Instr.lookup, Sem.run_bind, rUnd hu, Result.andThen_ok, conc, Sem.run_pure, List.map_nil]; rfl) hb
        | some r =>
          simp only at hb
          cases ho : σ.objs.get r with
          | none => rw [ho] at hb; cases hb
          | some ob =>
            rw [ho] at hb
            cases ob <;> simp only at hb <;> (try (cases hb; done))
            rename_i es clock
            obtain ⟨_, hwf, hok⟩ := h.ob r _ ho
            refine main es (fun e he => (hwf e he).2) ?_ hb
            have hg : (getObj (μ r).blk).run P w = .ok (.map (es.map (concE μ)).toArray clock) w := by simp [getObj, Sem.run, hok.1]
            simp only [Instr.lookup, Sem.run_bind, rUnd hu, conc, hg, Result.andThen_ok, Sem.run_pure]
            rfl
      | _ => simp only at hb; cases hb
end Vai

namespace Vai
open Go Go.RowKit

variable {P : Program} {G : Sym} {μ : Mu} {N0 : Nat} {σ : Mem} {w : World}

theorem Ob.mut_live {o : Ob} (h : o.mut) : o.live := by cases o <;> first | trivial | exact h
/-- Objects that are a block by themselves. -/
def Ob.whole : Ob → Prop
  | .map _ _ => True
  | .siter _ _ => True
  | .miter _ _ _ _ => True
  | _ => False

theorem whole_alone {i j : Nat} {o ob : Ob} (h : ob.whole) : ¬ Shares μ i j o ob ∧ ¬ Shares μ j i ob o := by
  cases ob <;> first | exact h.elim | (cases o <;> simp [Shares])
theorem Ob.whole_mut {o : Ob} (h : o.whole) : o.mut := by cases o <;> first | exact h.elim | trivial

theorem Rel.putOb (h : Rel G μ N0 σ w) {id : Nat} {o o' : Ob} (ho : σ.objs.get id = some o) (hs : o.whole) (hs' : o'.whole) (hwf : o'.wf σ.nxt) (oc : Obj)
    (hob : N0 ≤ (μ id).blk → (w.heap.setIfInBounds (μ id).blk oc)[(μ id).blk]? = some oc → ObOk μ N0 { w with heap := w.heap.setIfInBounds (μ id).blk oc } id o') :
    Rel G μ N0 ⟨σ.nxt, σ.objs.set id o'⟩ { w with heap := w.heap.setIfInBounds (μ id).blk oc } ∧
    Ext μ σ w μ ⟨σ.nxt, σ.objs.set id o'⟩ { w with heap := w.heap.setIfInBounds (μ id).blk oc } := by
  obtain ⟨hid, hwf0, hok0⟩ := h.ob id o ho
  have hcap : id < 1099511627776 := Nat.lt_of_lt_of_le hid h.lim
  have hold := h.mutOld ho (Ob.whole_mut hs)
  have hlt := hok0.blk_lt (Ob.mut_live (Ob.whole_mut hs))
  have get : ∀ j, (σ.objs.set id o').get j = if j = id then some o' else σ.objs.get j := fun j => T.get_set _ _ _ _ hcap
  have blk : ∀ b, b ≠ (μ id).blk → (w.heap.setIfInBounds (μ id).blk oc)[b]? = w.heap[b]? := fun b hb => by rw [Array.getElem?_setIfInBounds, if_neg (fun e => hb e.symm)]
  have own : (w.heap.setIfInBounds (μ id).blk oc)[(μ id).blk]? = some oc := by rw [Array.getElem?_setIfInBounds, if_pos rfl, if_pos hlt]
  have alone : ∀ j p, j ≠ id → σ.objs.get j = some p → p.live → (μ j).blk ≠ (μ id).blk := by
    intro j p hne hj hl e
    rcases h.sep j id p o hne hj ho hl (Ob.mut_live (Ob.whole_mut hs)) e with h1 | h1
    · exact (whole_alone hs).1 h1
    · exact (whole_alone hs).2 h1
  refine ⟨⟨h.glob, h.gnxt, h.lim, ?_, ?_, by simpa using h.base⟩, ⟨fun _ _ => rfl, Nat.le_refl _, rfl, rfl, rfl, by simp, ?_, ?_, ?_⟩⟩
  · intro j p hj
    rw [get] at hj
    by_cases e : j = id
    · rw [if_pos e] at hj; cases hj; subst e
      exact ⟨hid, hwf, hob hold own⟩
    · rw [if_neg e] at hj
      obtain ⟨h1, h2, h3⟩ := h.ob j p hj
      refine ⟨h1, h2, ?_⟩
      by_cases hl : p.live
      · exact ObOk.keep (w := w) (fun _ _ => rfl) h1 h2 (blk _ (alone j p e hj hl)) h3
      · cases p <;> simp [Ob.live] at hl; trivial
  · intro i j p r hij hi hj li lj hb
    rw [get] at hi hj
    by_cases ei : i = id
    · rw [if_neg (fun e => hij (ei.trans e.symm))] at hj
      rw [ei] at hb
      exact absurd hb.symm (alone j r (fun e => hij (ei.trans e.symm)) hj lj)
    · rw [if_neg ei] at hi
      by_cases ej : j = id
      · rw [ej] at hb; exact absurd hb (alone i p ei hi li)
      · rw [if_neg ej] at hj; exact h.sep i j p r hij hi hj li lj hb
  · intro b hb hn
    exact blk b fun e => hn id o ho (Ob.whole_mut hs) e.symm
  · intro j p hj hm
    right
    rw [get] at hj
    by_cases e : j = id
    · exact ⟨id, o, ho, Ob.whole_mut hs, by rw [e]⟩
    · rw [if_neg e] at hj; exact ⟨j, p, hj, hm, rfl⟩
  · intro j p hj hm
    right
    rw [get] at hj
    by_cases e : j = id
    · exact ⟨id, o, ho, Ob.mut_live (Ob.whole_mut hs), by rw [e]⟩
    · rw [if_neg e] at hj; exact ⟨j, p, hj, hm, rfl⟩

theorem keyStays {kind : TypeDesc} {k k2 : Value} (h : keySame kind k k2 = some true) (w : World) : (Instr.keyThatStays (conc μ k2) (conc μ k)).run P w = .ok (conc μ k) w := by
  unfold keySame at h
  split at h
  · rename_i a m b n
    by_cases e : a = b
    · rw [if_pos e, ieq_eq] at h
      have e2 : m = n := by simpa using h
      subst e; subst e2
      simp [Instr.keyThatStays, conc, Instr.sameBits]
    · rw [if_neg e] at h; cases h
  · rename_i s t
    rw [lEq_eq] at h
    have e2 : s.data.toList = t.data.toList := by simpa using h
    have e : s = t := by cases s; cases t; congr 1; exact Array.ext' e2
    subst e
    simp [Instr.keyThatStays, conc, Instr.sameBits, (Go.MapKept.bytes_beq s s).2 rfl]
  · cases h

theorem aMapUpdate_ok (h : Rel G μ N0 σ w) {t : TypeId} {x k v : Value} {r : NX × Mem} (hb : aMapUpdate P σ t x k v = some r) (hk : wf σ.nxt k) (hv : wf σ.nxt v) :
    OpOk P G μ N0 σ w (do Instr.mapUpdate t (conc μ x) (conc μ k) (conc μ v); pure .skip) r := by
  unfold aMapUpdate at hb
  cases hu : P.underlying t with
  | none => rw [hu] at hb; cases hb
  | some d =>
    rw [hu] at hb
    cases d <;> simp only at hb <;> (try (cases hb; done))
    rename_i key elem
    cases hkd : P.underlying key with
    | none => rw [hkd] at hb; cases hb
    | some kind =>
      rw [hkd] at hb; simp only at hb
      cases x <;> (try (cases hb; done))
      rename_i m
      cases m with
      | none =>
        simp only at hb; cases hb
        obtain ⟨y, hy⟩ : ∃ y, (runtimePanic (.plain "assignment to entry in nil map") : Sem Unit).run P w = .halt (.panic y) w := ⟨_, rfl⟩
        refine ⟨μ, w, h, Ext.refl _ _ _, y, ?_⟩
        simp only [Instr.mapUpdate, Sem.run_bind, rUnd hu, conc, Result.andThen_ok, hy, Result.andThen]
      | some m =>
        simp only at hb
        cases ho : σ.objs.get m with
        | none => rw [ho] at hb; cases hb
        | some ob =>
          rw [ho] at hb
          cases ob <;> simp only at hb <;> (try (cases hb; done))
          rename_i es clock
          obtain ⟨hid, hwf, hok⟩ := h.ob m _ ho
          have hg : (getObj (μ m).blk).run P w = .ok (.map (es.map (concE μ)).toArray clock) w := by simp [getObj, Sem.run, hok.1]
          have hset : ∀ oc, (setObj (μ m).blk oc).run P w = .ok () { w with heap := w.heap.setIfInBounds (μ m).blk oc } := fun oc => Go.MapKept.run_setObj_map oc hok.1
          cases hkk : keySame kind k k with
          | none => rw [hkk] at hb; cases hb
          | some b =>
            rw [hkk] at hb
            cases b with
            | false => cases hb
            | true =>
              simp only at hb
              have hck := checkKey_run (w := w) hkd hkk false 9999 (conc μ k)
              cases hf : aFind kind k es 0 with
              | none => rw [hf] at hb; cases hb
              | some f =>
                rw [hf] at hb
                have hfk := findKey_run (w := w) (μ := μ) hkd hf
                cases f with
                | some p =>
                  obtain ⟨i, v0⟩ := p
                  simp only at hb; cases hb
                  obtain ⟨e, g1, _, _, g4⟩ := (aFind_now (μ := μ) es 0 _ hf).2 _ rfl
                  simp only [Nat.sub_zero] at g1
                  have hst := keyStays (P := P) (μ := μ) g4 w
                  have hge : (((es.map (concE μ)).toArray[i]?).map (·.key)).getD (conc μ k) = conc μ e.key := by
                    rw [List.getElem?_toArray, List.getElem?_map, g1]; rfl
                  have hmod : (es.map (concE μ)).toArray.modify i (fun e => { e with key := conc μ k, val := conc μ v }) = ((es.modify i fun e => { e with key := k, val := v }).map (concE μ)).toArray := by
                    apply Array.ext'
                    rw [Array.toList_modify]
                    simp only
                    apply List.ext_getElem?
                    intro j
                    rw [List.getElem?_modify, List.getElem?_map, List.getElem?_map, List.getElem?_modify]
                    cases es[j]? with
                    | none => rfl
                    | some x => by_cases e : i = j <;> simp [e, concE]
                  have := h.putOb ho trivial (o' := .map (es.modify i fun e => { e with key := k, val := v }) clock) trivial (fun e he => by
                    obtain ⟨j, hj⟩ := List.getElem?_of_mem he
                    rw [List.getElem?_modify] at hj
                    cases hj2 : es[j]? with
                    | none => rw [hj2] at hj; cases hj
                    | some x =>
                      rw [hj2] at hj
                      have hx := hwf x (List.mem_of_getElem? hj2)
                      by_cases e2 : i = j
                      · simp [e2] at hj; rw [← hj]; exact ⟨hk, hv⟩
                      · simp [e2] at hj; rw [← hj]; exact hx) (.map ((es.modify i fun e => { e with key := k, val := v }).map (concE μ)).toArray clock) (fun h1 h2 => ⟨h2, h1⟩)
                  refine ⟨μ, _, this.1, this.2, ?_⟩
                  simp only [Instr.mapUpdate, Sem.run_bind, rUnd hu, conc, hg, hck, hfk, Option.map_some, Result.andThen_ok, hge, hst, hmod, hset, Sem.run_pure]
                | none =>
                  simp only at hb; cases hb
                  have hpush : (es.map (concE μ)).toArray.push { key := conc μ k, val := conc μ v, born := clock } = ((es ++ [({ key := k, val := v, born := clock } : MapEntry)]).map (concE μ)).toArray := by
                    apply Array.ext'; simp [concE]
                  have := h.putOb ho trivial (o' := .map (es ++ [({ key := k, val := v, born := clock } : MapEntry)]) (clock + 1)) trivial (fun e he => by
                    rcases List.mem_append.1 he with he | he
                    · exact hwf e he
                    · simp at he; rw [he]; exact ⟨hk, hv⟩) (.map ((es ++ [({ key := k, val := v, born := clock } : MapEntry)]).map (concE μ)).toArray (clock + 1)) (fun h1 h2 => ⟨h2, h1⟩)
                  refine ⟨μ, _, this.1, this.2, ?_⟩
                  simp only [Instr.mapUpdate, Sem.run_bind, rUnd hu, conc, hg, hck, hfk, Option.map_none, Result.andThen_ok, hpush, hset, Sem.run_pure]

theorem aTypeAssert_ok (h : Rel G μ N0 σ w) {x : Value} {xt asserted : TypeId} {ok : Bool} {nx : NX} (hb : aTypeAssert P x asserted ok = some nx) (hx : wf σ.nxt x) :
    OpOk P G μ N0 σ w (do pure (.value (← Instr.typeAssert (conc μ x) xt asserted ok))) (nx, σ) := by
  have holds : ∀ v : Value, wf σ.nxt v → nx = .val (cond ok (.tuple #[v, .bool true]) v) → (Instr.typeAssert (conc μ x) xt asserted ok).run P w = .ok (if ok then .tuple #[conc μ v, .bool true] else conc μ v) w →
      OpOk P G μ N0 σ w (do pure (.value (← Instr.typeAssert (conc μ x) xt asserted ok))) (nx, σ) := by
    intro v hv e hr
    subst e
    cases ok
    · exact OpOk.pure h (by simp only [Sem.run_bind, hr, Result.andThen_ok, Sem.run_pure]; rfl) hv
    · exact OpOk.pure h (by simp only [Sem.run_bind, hr, Result.andThen_ok, Sem.run_pure]; rfl) ⟨hv, trivial, trivial⟩
  have fails : ∀ (z : Value), zeroOf P asserted = some z → ok = true → nx = .val (.tuple #[z, .bool false]) → (Instr.typeAssert (conc μ x) xt asserted ok).run P w = (do pure (.tuple #[← zeroValue asserted, .bool false]) : Sem Value).run P w →
      OpOk P G μ N0 σ w (do pure (.value (← Instr.typeAssert (conc μ x) xt asserted ok))) (nx, σ) := by
    intro z hz hok e hr
    subst e
    have hzc := zeroOf_const hz
    refine OpOk.pure h ?_ ⟨wf_const _ _ hzc, trivial, trivial⟩
    simp only [Sem.run_bind, hr, rZero hz, Result.andThen_ok, Sem.run_pure]
    show Result.ok (Next.value (.tuple #[z, .bool false])) w = .ok (.value (.tuple #[conc μ z, .bool false])) w
    rw [conc_const μ z hzc]
  unfold aTypeAssert at hb
  cases hu : P.underlying asserted with
  | none => rw [hu] at hb; cases x <;> cases hb
  | some d =>
    rw [hu] at hb
    cases x with
    | iface t v =>
      cases d with
      | interface want =>
        simp only at hb
        cases hi : P.info? t with
        | none => rw [hi] at hb; cases hb
        | some i =>
          rw [hi] at hb; simp only [noneMissing_eq] at hb
          cases hm : Instr.missingMethod want i.methods with
          | none =>
            rw [hm] at hb; simp only [Option.isNone_none, cond_true] at hb; cases hb
            refine holds (.iface t v) hx rfl ?_
            simp only [Instr.typeAssert, Sem.run_bind, rUnd hu, conc, rInfo hi, hm, Result.andThen_ok, Sem.run_pure]
          | some s =>
            rw [hm] at hb; simp only [Option.isNone_some, cond_false] at hb
            cases ok with
            | false => cases hb
            | true =>
              simp only [cond_true] at hb
              cases hz : zeroOf P asserted with
              | none => rw [hz] at hb; cases hb
              | some z =>
                rw [hz] at hb; simp only at hb; cases hb
                refine fails z hz rfl rfl ?_
                simp only [Instr.typeAssert, Sem.run_bind, rUnd hu, conc, rInfo hi, hm, Result.andThen_ok, Sem.run_pure, if_true]
      | _ =>
        simp only [natBeq, cond_decide] at hb
        by_cases e : t = asserted
        · rw [if_pos e] at hb; cases hb
          refine holds v hx rfl ?_
          simp only [Instr.typeAssert, Sem.run_bind, rUnd hu, conc, Result.andThen_ok, Sem.run_pure, e, if_true]
        · rw [if_neg e] at hb
          cases ok with
          | false => cases hb
          | true =>
            simp only [cond_true] at hb
            cases hz : zeroOf P asserted with
            | none => rw [hz] at hb; cases hb
            | some z =>
              rw [hz] at hb; simp only at hb; cases hb
              refine fails z hz rfl rfl ?_
              simp only [Instr.typeAssert, Sem.run_bind, rUnd hu, conc, Result.andThen_ok, Sem.run_pure, e, if_false, if_true]
    | nilIface =>
      simp only at hb
      cases ok with
      | false => cases hb
      | true =>
        simp only [cond_true] at hb
        cases hz : zeroOf P asserted with
        | none => rw [hz] at hb; cases hb
        | some z =>
          rw [hz] at hb; simp only at hb; cases hb
          refine fails z hz rfl rfl ?_
          cases d <;> simp only [Instr.typeAssert, Sem.run_bind, rUnd hu, conc, Result.andThen_ok, Sem.run_pure, if_true]
    | _ => cases d <;> cases hb
end Vai

namespace Vai
open Go Go.RowKit

variable {P : Program} {G : Sym} {μ : Mu} {N0 : Nat} {σ : Mem} {w : World}

theorem aRange_ok (h : Rel G μ N0 σ w) {t : TypeId} {x : Value} {r : NX × Mem} (hb : aRange P σ t x = some r) (hx : wf σ.nxt x) :
    OpOk P G μ N0 σ w (do pure (.value (← Instr.range t (conc μ x)))) r := by
  unfold aRange at hb
  rw [natBlt, cond_decide] at hb
  by_cases hl : σ.nxt < 1099511627776
  rotate_left
  · rw [if_neg hl] at hb; cases hb
  rw [if_pos hl] at hb
  have ag := agree_upd μ σ.nxt ⟨w.heap.size, 0, 0⟩
  have fin : ∀ (o : Ob) (oc : Obj), o.wf σ.nxt → ObOk (upd μ σ.nxt ⟨w.heap.size, 0, 0⟩) N0 (w.alloc oc) σ.nxt o → (Instr.range t (conc μ x)).run P w = .ok (.pointer (some ⟨w.heap.size, 0, none⟩)) (w.alloc oc) →
      OpOk P G μ N0 σ w (do pure (.value (← Instr.range t (conc μ x)))) (.val (.pointer (some ⟨σ.nxt, 0, none⟩)), σ.add o) := by
    intro o oc hw hok hr
    have key := h.newOb hl o oc 0 hw hok
    refine ⟨_, _, key.1, key.2, ?_, Nat.lt_succ_self _⟩
    simp only [Sem.run_bind, hr, Result.andThen_ok, Sem.run_pure]
    simp [conc, Mu.addr, upd_same]
  cases hu : P.underlying t with
  | none => rw [hu] at hb; cases hb
  | some d =>
    rw [hu] at hb
    cases d <;> (try (cases x <;> cases hb; done))
    case string =>
      cases x <;> (try (cases hb; done))
      rename_i s
      cases hb
      refine fin (.siter (.string s) 0) (.stringIter s 0) trivial ⟨⟨s, rfl, by rw [upd_same]; exact heap_alloc_new _ _⟩, by rw [upd_same]; exact ⟨h.base, rfl⟩⟩ ?_
      simp [Instr.range, rUnd hu, conc]
    case map k e =>
      cases x <;> (try (cases hb; done))
      rename_i m
      cases m with
      | none =>
        cases hb
        refine fin (.miter none 0 [] 0) (.mapIter none 0 #[] 0) (fun r hr => by cases hr) ⟨by rw [upd_same]; exact heap_alloc_new _ _, by rw [upd_same]; exact ⟨h.base, rfl⟩⟩ ?_
        simp [Instr.range, rUnd hu, conc]
      | some m =>
        simp only at hb
        cases ho : σ.objs.get m with
        | none => rw [ho] at hb; cases hb
        | some ob =>
          rw [ho] at hb
          cases ob <;> simp only at hb <;> (try (cases hb; done))
          rename_i es clock
          cases hb
          obtain ⟨hid, hwf, hok⟩ := h.ob m _ ho
          have hg : (getObj (μ m).blk).run P w = .ok (.map (es.map (concE μ)).toArray clock) w := by simp [getObj, Sem.run, hok.1]
          refine fin (.miter (some m) clock [] clock) (.mapIter (some (μ m).blk) clock #[] clock) (fun r hr => by cases hr; exact hid)
            ⟨by rw [upd_same, Option.map_some, upd_other _ _ _ _ (by omega)]; exact heap_alloc_new _ _, by rw [upd_same]; exact ⟨h.base, rfl⟩⟩ ?_
          simp only [Instr.range, Sem.run_bind, rUnd hu, conc, Result.andThen_ok, hg, Sem.run_pure]
          simp

theorem decode_ascii {s : ByteArray} {pos : Nat} {b : UInt8} (hb : s.data.toList[pos]? = some b) (h : b.toNat < 128) : Utf8.decode s pos = (b.toNat, 1) := by
  have hlt : pos < s.data.size := by
    rcases Nat.lt_or_ge pos s.data.toList.length with h1 | h1
    · simpa using h1
    · rw [List.getElem?_eq_none h1] at hb; cases hb
  have e : s.get! (pos + 0) = b := by
    show s.data[pos + 0]! = b
    rw [Nat.add_zero, getElem!_pos s.data pos hlt]
    rw [Array.getElem?_toList, Array.getElem?_eq_getElem hlt] at hb
    exact Option.some.inj hb
  unfold Utf8.decode
  simp only [e]
  rw [if_pos h]

theorem born_conc (μ : Mu) (e : MapEntry) : (concE μ e).born = e.born := rfl
theorem filter_conc (μ : Mu) (p : MapEntry → Bool) (hp : ∀ e, p (concE μ e) = p e) (es : List MapEntry) : (es.map (concE μ)).toArray.filter p = ((es.filter p).map (concE μ)).toArray := by
  apply Array.ext'
  rw [Array.toList_filter]
  simp only
  rw [List.filter_map]
  congr 1
  exact List.filter_congr fun e _ => hp e

theorem aNext_ok (h : Rel G μ N0 σ w) {it : Value} {s : Bool} {ty : TypeId} {r : NX × Mem} (hb : aNext σ it s = some r) :
    OpOk P G μ N0 σ w (do pure (.value (← Instr.next (conc μ it) s ty))) r := by
  unfold aNext at hb
  simp only [idxR_eq] at hb
  split at hb
  · rename_i m
    cases ho : σ.objs.get m with
    | none => rw [ho] at hb; cases hb
    | some ob =>
      rw [ho] at hb
      obtain ⟨hid, hwf, hok⟩ := h.ob m _ ho
      have hover : ∀ sm : Sem Value, sm.run P w = .ok (.tuple #[.bool false]) w → OpOk P G μ N0 σ w (do pure (.value (← sm))) (.val (.tuple #[.bool false]), σ) := by
        intro sm hs
        exact OpOk.pure h (by simp only [Sem.run_bind, hs, Result.andThen_ok, Sem.run_pure]; rfl) ⟨trivial, trivial⟩
      cases ob with
      | siter sv pos =>
        cases s with
        | false => cases sv <;> cases hb
        | true =>
         cases sv <;> (try (cases hb; done))
         case string st =>
          simp only at hb
          obtain ⟨⟨bs, g0, g1⟩, g2, g3⟩ := hok
          obtain rfl : st = bs := by simpa [conc] using g0
          have hit : conc μ (.pointer (some ⟨m, 0, none⟩)) = .pointer (some ⟨(μ m).blk, 0, none⟩) := by simp [conc, Mu.addr, g3]
          have hg : (getObj (μ m).blk).run P w = .ok (.stringIter st pos) w := by simp [getObj, Sem.run, g1]
          have hsz : st.size = st.data.toList.length := rfl
          rw [natBlt, cond_decide] at hb
          by_cases hp : pos < st.data.toList.length
          · rw [if_pos hp] at hb
            cases hbb : st.data.toList[pos]? with
            | none => rw [hbb] at hb; cases hb
            | some b =>
              rw [hbb] at hb; simp only at hb
              rw [natBlt, cond_decide] at hb
              by_cases h8 : b.toNat < 128
              · rw [if_pos h8] at hb; cases hb
                have hd := decode_ascii hbb h8
                have hset : ∀ oc, (setObj (μ m).blk oc).run P w = .ok () { w with heap := w.heap.setIfInBounds (μ m).blk oc } := fun oc => by simp [setObj, Sem.run, g1]
                have := h.putOb ho trivial (o' := .siter (.string st) (pos + 1)) trivial trivial (.stringIter st (pos + 1)) (fun h1 h2 => ⟨⟨st, rfl, h2⟩, h1, g3⟩)
                refine ⟨μ, _, this.1, this.2, ?_, trivial, trivial, trivial, trivial⟩
                rw [hit]
                simp only [Instr.next, Sem.run_bind, hg, Result.andThen_ok, hsz, hp, if_true, hd, hset, Sem.run_pure]
                rfl
              · rw [if_neg h8] at hb; cases hb
          · rw [if_neg hp] at hb; cases hb
            refine hover _ ?_
            rw [hit]
            simp only [Instr.next, Sem.run_bind, hg, Result.andThen_ok, hsz, hp, if_false, Sem.run_pure]
      | miter mo since seen stepped =>
        cases s with
        | true => cases mo <;> cases hb
        | false =>
          obtain ⟨g1, g2, g3⟩ := hok
          have hit : conc μ (.pointer (some ⟨m, 0, none⟩)) = .pointer (some ⟨(μ m).blk, 0, none⟩) := by simp [conc, Mu.addr, g3]
          cases mo with
          | none =>
            cases hb
            have hg : (getObj (μ m).blk).run P w = .ok (.mapIter none since seen.toArray stepped) w := by simp [getObj, Sem.run, g1]
            refine hover _ ?_
            rw [hit]
            simp only [Instr.next, Sem.run_bind, hg, Result.andThen_ok, Sem.run_pure]
          | some mm =>
            simp only at hb
            have hg : (getObj (μ m).blk).run P w = .ok (.mapIter (some (μ mm).blk) since seen.toArray stepped) w := by simp [getObj, Sem.run, g1]
            cases ho2 : σ.objs.get mm with
            | none => rw [ho2] at hb; cases hb
            | some ob2 =>
              rw [ho2] at hb
              cases ob2 <;> simp only at hb <;> (try (cases hb; done))
              rename_i es clock
              obtain ⟨hid2, hwf2, hok2⟩ := h.ob mm _ ho2
              have hg2 : (getObj (μ mm).blk).run P w = .ok (.map (es.map (concE μ)).toArray clock) w := by simp [getObj, Sem.run, hok2.1]
              have hcond : (!seen.toArray.isEmpty && !(es.map (concE μ)).toArray.isEmpty && (es.map (concE μ)).toArray.all (fun e => decide (e.born ≥ stepped))) = ((!seen.isEmpty) && (!es.isEmpty) && es.all (fun e => Nat.ble stepped e.born)) := by
                congr 1
                · congr 1
                  · simp
                  · simp
                · rw [← Array.all_toList]
                  simp only [List.all_map]
                  congr 1
                  funext e
                  show decide (stepped ≤ e.born) = Nat.ble stepped e.born
                  rw [natBle]
              cases hc : ((!seen.isEmpty) && (!es.isEmpty) && es.all (fun e => Nat.ble stepped e.born)) with
              | true => rw [hc] at hb; cases hb
              | false =>
                rw [hc] at hb hcond
                simp only [cond_false] at hb
                have f1 := filter_conc μ (fun e => !seen.toArray.contains e.born) (fun e => rfl) es
                have f1' : es.filter (fun e => !seen.toArray.contains e.born) = es.filter (fun e => !seen.contains e.born) := by congr 1; funext e; simp
                rw [f1'] at f1
                have f2 : es.filter (fun e => !seen.contains e.born && Nat.ble since e.born) = (es.filter (fun e => !seen.contains e.born)).filter fun e => Nat.ble since e.born := by
                  rw [List.filter_filter]; congr 1; funext e; rw [Bool.and_comm]
                rw [f2] at hb
                generalize hL : es.filter (fun e => !seen.contains e.born) = left at hb f1
                cases left with
                | nil =>
                  simp only at hb; cases hb
                  refine hover _ ?_
                  rw [hit]
                  simp only [Instr.next, Sem.run_bind, hg, hg2, hcond, Result.andThen_ok, f1]
                  simp [Question.forced]
                | cons e l =>
                  cases l with
                  | cons e2 l2 => simp only at hb; cases hb
                  | nil =>
                    by_cases hs : since ≤ e.born
                    · simp [List.filter, natBle, hs] at hb
                    · have hs' : e.born < since := by omega
                      simp [List.filter, natBle, hs] at hb
                      cases hb
                      have he : e ∈ es := by have : e ∈ es.filter (fun e => !seen.contains e.born) := by rw [hL]; simp
                                             exact (List.mem_filter.1 this).1
                      have hset : ∀ oc, (setObj (μ m).blk oc).run P w = .ok () { w with heap := w.heap.setIfInBounds (μ m).blk oc } := fun oc => by simp [setObj, Sem.run, g1]
                      have := h.putOb ho trivial (o' := .miter (some mm) since (seen ++ [e.born]) clock) trivial (fun r hr => by cases hr; exact hid2) (.mapIter (some (μ mm).blk) since (seen ++ [e.born]).toArray clock) (fun h1 h2 => ⟨h2, h1, g3⟩)
                      refine ⟨μ, _, this.1, this.2, ?_, trivial, (hwf2 e he).1, (hwf2 e he).2, trivial⟩
                      rw [hit]
                      simp only [Instr.next, Sem.run_bind, hg, hg2, hcond, Result.andThen_ok, f1]
                      simp [Question.forced, born_conc, hs, hs', hset, concE]
                      rfl
      | row r => simp only at hb; cases hb
      | map a b => simp only at hb; cases hb
      | dead => simp only at hb; cases hb
  · cases hb
end Vai

namespace Vai
open Go Go.RowKit

/-! clear and delete. -/
variable {P : Program} {G : Sym} {μ : Mu} {N0 : Nat} {σ : Mem} {w : World}

theorem unit_ok {s : Sem Value} {σ' : Mem} {w' : World} {r : NX × Mem} (hr : r = (.val (.tuple #[]), σ')) (h1 : s.run P w = .ok (.tuple #[]) w') (h2 : Rel G μ N0 σ' w') (h3 : Ext μ σ w μ σ' w') :
    OpOk P G μ N0 σ w (do pure (.value (← s))) r := by
  subst hr
  refine ⟨μ, w', h2, h3, ?_, trivial⟩
  simp only [Sem.run_bind, h1, Result.andThen_ok, Sem.run_pure]
  rfl

theorem aClear_ok (h : Rel G μ N0 σ w) {ts : Array TypeId} {x : Value} {r : NX × Mem} (hb : aClear P σ ts x = some r) (ty : TypeId) :
    OpOk P G μ N0 σ w (do pure (.value (← Builtin.clear_ ts ty #[conc μ x]))) r := by
  unfold aClear at hb
  cases ht : ts[0]? with
  | none => rw [ht] at hb; cases hb
  | some t =>
    rw [ht] at hb; simp only at hb
    cases hu : P.underlying t with
    | none => rw [hu] at hb; cases hb
    | some d =>
      rw [hu] at hb
      have start : (Builtin.clear_ ts ty #[conc μ x]).run P w = (do
          match d, conc μ x with
          | _, .map none | _, .slice none _ _ | _, .slice _ 0 _ => pure ()
          | _, .map (some r) =>
            let .map _ clock ← getObj r | stuck "clear: map expected"
            setObj r (.map #[] clock)
          | .slice elem, .slice (some a) n _ =>
            storeCells a (Builtin.zeroCells (← zeroValue elem).cells n).toList
          | _, _ => stuck "clear: map or slice expected"
          pure (.tuple #[]) : Sem Value).run P w := by
        show (do
          let (some t, some x) := (ts[0]?, (#[conc μ x])[0]?) | stuck "clear: one argument expected"
          match ← underlying t, x with
          | _, .map none | _, .slice none _ _ | _, .slice _ 0 _ => pure ()
          | _, .map (some r) =>
            let .map _ clock ← getObj r | stuck "clear: map expected"
            setObj r (.map #[] clock)
          | .slice elem, .slice (some a) n _ =>
            storeCells a (Builtin.zeroCells (← zeroValue elem).cells n).toList
          | _, _ => stuck "clear: map or slice expected"
          pure (.tuple #[]) : Sem Value).run P w = _
        rw [ht]
        simp only [List.getElem?_toArray, List.getElem?_cons_zero, Sem.run_bind, rUnd hu, Result.andThen_ok]
      cases x with
      | map m =>
        cases m with
        | none =>
          simp only at hb
          cases hb
          refine unit_ok rfl ?_ h (Ext.refl _ _ _)
          rw [start]; rfl
        | some m =>
          simp only at hb
          cases ho : σ.objs.get m with
          | none => rw [ho] at hb; cases hb
          | some ob =>
            rw [ho] at hb
            cases ob <;> simp only at hb <;> (try (cases hb; done))
            rename_i es clock
            cases hb
            obtain ⟨hid, hwf, hok⟩ := h.ob m _ ho
            have hg : (getObj (μ m).blk).run P w = .ok (.map (es.map (concE μ)).toArray clock) w := by simp [getObj, Sem.run, hok.1]
            have hset : ∀ oc, (setObj (μ m).blk oc).run P w = .ok () { w with heap := w.heap.setIfInBounds (μ m).blk oc } := fun oc => Go.MapKept.run_setObj_map oc hok.1
            have := h.putOb ho trivial (o' := .map [] clock) trivial (fun e he => by cases he) (.map #[] clock) (fun h1 h2 => ⟨h2, h1⟩)
            refine unit_ok rfl ?_ this.1 this.2
            rw [start]
            simp only [conc, Sem.run_bind, hg, Result.andThen_ok, hset, Sem.run_pure]
      | slice base n c =>
        cases base with
        | none =>
          simp only at hb
          cases hb
          refine unit_ok rfl ?_ h (Ext.refl _ _ _)
          rw [start]; rfl
        | some a =>
          cases n with
          | zero =>
            simp only at hb
            cases hb
            refine unit_ok rfl ?_ h (Ext.refl _ _ _)
            rw [start]; rfl
          | succ n =>
            cases d <;> simp only at hb <;> (try (cases hb; done))
            rename_i elem
            cases hs : szOf P elem with
            | none => rw [hs] at hb; cases hb
            | some size =>
              cases hz : zeroOf P elem with
              | none => rw [hs, hz] at hb; cases hb
              | some z =>
                rw [hs, hz] at hb
                simp only [natBeq, cond_decide] at hb
                by_cases hzl : (vcells z).length = size
                · rw [if_pos hzl] at hb
                  cases hst : Mem.storeL (repL (vcells z) (n + 1)) σ a 0 with
                  | none => rw [hst] at hb; cases hb
                  | some σ' =>
                    rw [hst] at hb; cases hb
                    have hzc := zeroOf_const hz
                    obtain ⟨w', e1, e2, e3, e4⟩ := Rel.storeL0 (P := P) (repL (vcells z) (n + 1)) h hst (repL_wf (wfL_const' hzc) _)
                    refine unit_ok rfl ?_ e2 e3
                    rw [start, conc_slice]
                    have hzz : z.cells.toList = vcells z := by rw [vcells_eq]
                    have hzs : z.cells.size = size := by rw [vcells_eq]; exact hzl
                    have hrep : (Builtin.zeroCells z.cells (n + 1)).toList = repL (vcells z) (n + 1) := by
                      have := repL_eq z.cells (n + 1) size (by rw [hzz]; exact hzl)
                      unfold Builtin.zeroCells
                      rw [hzs] at this ⊢
                      rw [this, hzz]
                    rw [repL_conc μ (vcells_const μ hzc)] at e1
                    simp only [Sem.run_bind, rZero hz, Result.andThen_ok, hrep, e1, Sem.run_pure]
                · rw [if_neg hzl] at hb; cases hb
      | _ => cases hb

theorem aDelete_ok (h : Rel G μ N0 σ w) {ts : Array TypeId} {x k : Value} {r : NX × Mem} (hb : aDelete P σ ts x k = some r) (ty : TypeId) :
    OpOk P G μ N0 σ w (do pure (.value (← Builtin.delete_ ts ty #[conc μ x, conc μ k]))) r := by
  unfold aDelete at hb
  cases ht : ts[0]? with
  | none => rw [ht] at hb; cases hb
  | some t =>
    rw [ht] at hb; simp only at hb
    cases hu : P.underlying t with
    | none => rw [hu] at hb; cases hb
    | some d =>
      rw [hu] at hb
      cases d <;> simp only at hb <;> (try (cases hb; done))
      rename_i key elem
      cases hkd : P.underlying key with
      | none => rw [hkd] at hb; cases hb
      | some kind =>
        rw [hkd] at hb; simp only at hb
        cases x <;> (try (cases hb; done))
        rename_i m
        cases hkk : keySame kind k k with
        | none => rw [hkk] at hb; cases m <;> cases hb
        | some b =>
          rw [hkk] at hb
          cases b with
          | false => cases m <;> cases hb
          | true =>
            cases m with
            | none =>
              simp only at hb; cases hb
              refine unit_ok rfl ?_ h (Ext.refl _ _ _)
              have hck := checkKey_run (w := w) hkd hkk true 9999 (conc μ k)
              show (do
                let (some mapType, some m, some k) := (ts[0]?, (#[conc μ (.map none), conc μ k])[0]?, (#[conc μ (.map none), conc μ k])[1]?) | stuck "delete: two arguments expected"
                let .map keyType _ ← underlying mapType | stuck "delete: map type expected"
                match m with
                | .map none => Instr.checkKey true 10000 keyType k
                | .map (some r) =>
                  let .map es clock ← getObj r | stuck "delete: map expected"
                  Instr.checkKey es.isEmpty 10000 keyType k
                  match ← Instr.findKey keyType k es.toList with
                  | some (i, _) => setObj r (.map (es.eraseIdxIfInBounds i) clock)
                  | none => setObj r (.map es clock)
                | _ => stuck "delete: map expected"
                pure (.tuple #[]) : Sem Value).run P w = _
              rw [ht]
              simp only [List.getElem?_toArray, List.getElem?_cons_zero, List.getElem?_cons_succ, Sem.run_bind, rUnd hu, Result.andThen_ok, conc, hck, Sem.run_pure]
            | some m =>
              simp only at hb
              cases ho : σ.objs.get m with
              | none => rw [ho] at hb; cases hb
              | some ob =>
                rw [ho] at hb
                cases ob <;> simp only at hb <;> (try (cases hb; done))
                rename_i es clock
                obtain ⟨hid, hwf, hok⟩ := h.ob m _ ho
                have hg : (getObj (μ m).blk).run P w = .ok (.map (es.map (concE μ)).toArray clock) w := by simp [getObj, Sem.run, hok.1]
                have hset : ∀ oc, (setObj (μ m).blk oc).run P w = .ok () { w with heap := w.heap.setIfInBounds (μ m).blk oc } := fun oc => Go.MapKept.run_setObj_map oc hok.1
                have hck := fun b => checkKey_run (w := w) hkd hkk b 9999 (conc μ k)
                cases hf : aFind kind k es 0 with
                | none => rw [hf] at hb; cases hb
                | some f =>
                  rw [hf] at hb
                  have hfk := findKey_run (w := w) (μ := μ) hkd hf
                  have start : (Builtin.delete_ ts ty #[conc μ (.map (some m)), conc μ k]).run P w = (do
                      match f.map fun p => (p.1, conc μ p.2) with
                      | some (i, _) => setObj (μ m).blk (.map ((es.map (concE μ)).toArray.eraseIdxIfInBounds i) clock)
                      | none => setObj (μ m).blk (.map (es.map (concE μ)).toArray clock)
                      pure (.tuple #[]) : Sem Value).run P w := by
                    show (do
                      let (some mapType, some m, some k) := (ts[0]?, (#[conc μ (.map (some m)), conc μ k])[0]?, (#[conc μ (.map (some m)), conc μ k])[1]?) | stuck "delete: two arguments expected"
                      let .map keyType _ ← underlying mapType | stuck "delete: map type expected"
                      match m with
                      | .map none => Instr.checkKey true 10000 keyType k
                      | .map (some r) =>
                        let .map es clock ← getObj r | stuck "delete: map expected"
                        Instr.checkKey es.isEmpty 10000 keyType k
                        match ← Instr.findKey keyType k es.toList with
                        | some (i, _) => setObj r (.map (es.eraseIdxIfInBounds i) clock)
                        | none => setObj r (.map es clock)
                      | _ => stuck "delete: map expected"
                      pure (.tuple #[]) : Sem Value).run P w = _
                    rw [ht]
                    simp only [List.getElem?_toArray, List.getElem?_cons_zero, List.getElem?_cons_succ, Sem.run_bind, rUnd hu, Result.andThen_ok, conc, hg, hck, hfk]
                  cases f with
                  | some p =>
                    obtain ⟨i, v0⟩ := p
                    simp only at hb; cases hb
                    have her : (es.map (concE μ)).toArray.eraseIdxIfInBounds i = ((es.eraseIdx i).map (concE μ)).toArray := by
                      apply Array.ext'
                      unfold Array.eraseIdxIfInBounds
                      split
                      · simp [List.eraseIdx_eq_take_drop_succ]
                      · rename_i hlt
                        have : es.length ≤ i := by simpa using hlt
                        rw [List.eraseIdx_of_length_le this]
                    have := h.putOb ho trivial (o' := .map (es.eraseIdx i) clock) trivial (fun e he => hwf e (List.mem_of_mem_eraseIdx he)) (.map ((es.eraseIdx i).map (concE μ)).toArray clock) (fun h1 h2 => ⟨h2, h1⟩)
                    refine unit_ok rfl ?_ this.1 this.2
                    rw [start]
                    simp only [Option.map_some, Sem.run_bind, her, hset, Result.andThen_ok, Sem.run_pure]
                  | none =>
                    simp only at hb; cases hb
                    have := h.putOb ho trivial (o' := .map es clock) trivial hwf (.map (es.map (concE μ)).toArray clock) (fun h1 h2 => ⟨h2, h1⟩)
                    refine unit_ok rfl ?_ this.1 this.2
                    rw [start]
                    simp only [Option.map_none, Sem.run_bind, hset, Result.andThen_ok, Sem.run_pure]
end Vai

namespace Vai
open Go Go.RowKit

variable {P : Program} {G : Sym} {μ : Mu} {N0 : Nat} {σ : Mem} {w : World}

/-- What is known of functions without a body is right. -/
def FnOk (P : Program) (G : Sym) (X : Func → List Value → Mem → Option (NX × Mem)) : Prop :=
  ∀ (f : FuncId) (fn : Func) (args : List Value) (σ : Mem) (r : NX × Mem) (μ : Mu) (N0 : Nat) (w : World), P.funcs[f]? = some fn → fn.body = none → X fn args σ = some r → Rel G μ N0 σ w → wfL σ.nxt args →
    OpOk P G μ N0 σ w (callFunc f ⟨args.map (conc μ)⟩) r
def NamOk (P : Program) (G : Sym) (X : Extn) : Prop :=
  ∀ (o : Oper) (r : NX × Mem) (ρ ρ' : Operand → Value) (σ : Mem) (μ : Mu) (N0 : Nat) (w : World), nameOp P X ((opnds o.op).map ρ) σ o.op = some r → okOp o.op = true → Rel G μ N0 σ w →
    (∀ x, okB x = true → ρ' x = conc μ (ρ x) ∧ wf σ.nxt (ρ x)) → OpOk P G μ N0 σ w (execOp ρ' o) r
structure ExtOk (P : Program) (G : Sym) (X : Extn) : Prop where
  fn : FnOk P G X.fn
  nam : NamOk P G X
theorem nameOp_of (P : Program) (f : Func → List Value → Mem → Option (NX × Mem)) (vals : List Value) (σ : Mem) (op : Op) : nameOp P (Extn.of f) vals σ op = none := by
  unfold nameOp
  split <;> rfl
theorem ExtOk.of {f : Func → List Value → Mem → Option (NX × Mem)} (h : FnOk P G f) : ExtOk P G (Extn.of f) :=
  ⟨h, fun o r ρ ρ' σ μ N0 w hb => by rw [nameOp_of] at hb; cases hb⟩

theorem st_inv {o : Option NX} {r : NX × Mem} (h : st σ o = some r) : ∃ v, o = some v ∧ r = (v, σ) := by
  cases o with
  | none => cases h
  | some v => exact ⟨v, rfl, (Option.some.inj h).symm⟩

theorem aCallFunc_ok {X : Extn} (hX : ExtOk P G X) (h : Rel G μ N0 σ w) {f : FuncId} {args : List Value} {r : NX × Mem} (hb : aCallFunc P X f args σ = some r) (hw : wfL σ.nxt args) :
    OpOk P G μ N0 σ w (callFunc f ⟨args.map (conc μ)⟩) r := by
  unfold aCallFunc at hb
  cases hf : P.funcs[f]? with
  | none => rw [hf] at hb; cases hb
  | some fn =>
    rw [hf] at hb; simp only at hb
    cases hbd : fn.body with
    | none => rw [hbd] at hb; exact hX.fn f fn args σ r μ N0 w hf hbd hb h hw
    | some c =>
      rw [hbd] at hb; simp only at hb
      cases hn : (fn.name == "runtime.NumGoroutine") with
      | true => rw [hn] at hb; cases hb
      | false =>
        rw [hn, cond_false] at hb; cases hb
        refine ⟨μ, w, h, Ext.refl _ _ _, ?_, hw⟩
        simp only [callFunc, Sem.run_bind, run_program, Result.andThen_ok, hf, hn, Bool.false_eq_true, if_false, hbd, Option.isNone_some, Sem.run_pure]
        simp only [concA, concL_map]

theorem map_rho {ρ ρ' : Operand → Value} {l : List Operand} (hρ : ∀ x, okB x = true → ρ' x = conc μ (ρ x) ∧ wf σ.nxt (ρ x)) (hl : l.all okB = true) : l.map ρ' = (l.map ρ).map (conc μ) ∧ wfL σ.nxt (l.map ρ) := by
  rw [List.all_eq_true] at hl
  constructor
  · rw [List.map_map]; exact List.map_congr_left fun x hx => (hρ x (hl x hx)).1
  · exact (wfL_iff _ _).2 fun v hv => by
      obtain ⟨x, hx, rfl⟩ := List.mem_map.1 hv
      exact (hρ x (hl x hx)).2

theorem opt_rho {ρ ρ' : Operand → Value} {o : Option Operand} (hρ : ∀ x, okB x = true → ρ' x = conc μ (ρ x) ∧ wf σ.nxt (ρ x)) (hl : okO o = true) : o.map ρ' = (o.map ρ).map (conc μ) := by
  cases o with
  | none => rfl
  | some x => simp only [Option.map_some]; rw [(hρ x hl).1]

theorem nilDeref_run (α : Type) (P : Program) (w : World) : ∃ x, (runtimePanic .nilDeref : Sem α).run P w = .halt (.panic x) w :=
  ⟨.iface P.rt.errorString (strVal "invalid memory address or nil pointer dereference"), by simp [runtimePanic]⟩

theorem parts_rho {ρ ρ' : Operand → Value} {ps : Array (Nat × Operand)} (hρ : ∀ x, okB x = true → ρ' x = conc μ (ρ x) ∧ wf σ.nxt (ρ x)) (hl : (ps.toList.all fun p => okB p.2) = true) :
    (ps.map fun (i, x) => (i, ρ' x)) = (⟨ps.toList.map fun p => (p.1, ρ p.2)⟩ : Array (Nat × Value)).map (fun p => (p.1, conc μ p.2)) ∧ ∀ p ∈ (⟨ps.toList.map fun p => (p.1, ρ p.2)⟩ : Array (Nat × Value)).toList, wf σ.nxt p.2 := by
  rw [List.all_eq_true] at hl
  constructor
  · apply Array.ext'
    simp only [Array.toList_map, List.map_map]
    exact List.map_congr_left fun p hp => by simp only [Function.comp]; rw [(hρ p.2 (hl p hp)).1]
  · intro p hp
    obtain ⟨q, hq, rfl⟩ := List.mem_map.1 hp
    exact (hρ q.2 (hl q hq)).2

theorem conc_func (μ : Mu) (fn : Fn) (f c : Array Value) : conc μ (.func fn f c) = .func fn ⟨f.toList.map (conc μ)⟩ ⟨c.toList.map (conc μ)⟩ := by
  cases f; cases c; simp only [conc, concA, concL_map]

theorem aBuiltin_ok (h : Rel G μ N0 σ w) {b : Builtin} {argTypes : Array TypeId} {args : List Value} {r : NX × Mem} (hb : aBuiltin P b argTypes args σ = some r) (hw : wfL σ.nxt args) (ty : TypeId) (consts : Array Bool) :
    OpOk P G μ N0 σ w (Go.builtin b argTypes ty consts ⟨args.map (conc μ)⟩) r := by
  unfold aBuiltin at hb
  split at hb
  · rename_i x
    cases hl : aLen P σ argTypes x with
    | none => rw [hl] at hb; cases hb
    | some v => rw [hl] at hb; cases hb; exact aLen_ok h hl ty
  · rename_i x
    cases hl : aCap P argTypes x with
    | none => rw [hl] at hb; cases hb
    | some v => rw [hl] at hb; cases hb; exact aCap_ok h hl ty
  · exact aAppend_ok h hb hw.1 hw.2.1 ty
  · exact aCopy_ok h hb ty
  · cases hl : aMinMax true args with
    | none => rw [hl] at hb; cases hb
    | some v => rw [hl] at hb; cases hb; exact aMax_ok (t := #[]) h hl
  · cases hl : aMinMax false args with
    | none => rw [hl] at hb; cases hb
    | some v => rw [hl] at hb; cases hb; exact aMin_ok (t := #[]) h hl
  · rename_i x
    cases hl : aUnsafeSliceData σ x with
    | none => rw [hl] at hb; cases hb
    | some v => rw [hl] at hb; cases hb; exact aUnsafeSliceData_ok h hl hw.1 argTypes ty
  · exact aUnsafeString_ok h hb ty
  · exact aClear_ok h hb ty
  · exact aDelete_ok h hb ty
  · cases hb

def isPtrD : TypeDesc → Bool
  | .pointer _ => true
  | _ => false

theorem method_run {t : TypeId} {v : Value} {name : String} {f : FuncId} {pr : Bool} {d : TypeDesc} (hm : aMethod P t name = some (f, pr)) (hu : P.underlying t = some d) (hd : pr = isPtrD d) (n : Nat) (w : World) :
    (method (n + 1) t v name).run P w = .ok (f, v) w := by
  unfold aMethod at hm
  cases hi : P.info? t with
  | none => rw [hi] at hm; cases hm
  | some i =>
    rw [hi] at hm; simp only at hm
    cases hf : i.methods.find? (fun x => x.name == name) with
    | none => rw [hf] at hm; cases hm
    | some m =>
      rw [hf] at hm; simp only at hm
      cases hp : m.path.isEmpty with
      | false => rw [hp] at hm; cases hm
      | true =>
        rw [hp, cond_true] at hm
        have hpl : m.path.toList = [] := by
          have : m.path = #[] := by simpa using hp
          rw [this]
        have hr : (receiverAt t (.val v) pr (if m.path.isEmpty = true then some ((name.splitOn ".").getLastD name) else none)).run P w = .ok v w := by
          unfold receiverAt
          simp only [Sem.run_bind, rUnd hu, Result.andThen_ok]
          subst hd
          cases d <;> rfl
        simp only [method, Sem.run_bind, rInfo hi, Result.andThen_ok, hf, hpl, follow, Sem.run_pure, hm, hr]

theorem nilAhead_run {t : TypeId} {name : String} {f : FuncId} {pr : Bool} {d : TypeDesc} (hm : aMethod P t name = some (f, pr)) (hu : P.underlying t = some d) (hd : pr = isPtrD d) (v : Value) :
    (nilAhead (P.types.size + Made.depth) t v name).run P w = .ok (some false) w := by
  obtain ⟨n, hn⟩ : ∃ n, P.types.size + Made.depth = n + 1 := ⟨P.types.size + (Made.depth - 1), rfl⟩
  rw [hn]
  unfold aMethod at hm
  cases hi : P.info? t with
  | none => rw [hi] at hm; cases hm
  | some i =>
    rw [hi] at hm; simp only at hm
    cases hf : i.methods.find? (fun x => x.name == name) with
    | none => rw [hf] at hm; cases hm
    | some m =>
      rw [hf] at hm; simp only at hm
      cases hp : m.path.isEmpty with
      | false => rw [hp] at hm; cases hm
      | true =>
        rw [hp, cond_true] at hm
        have hpl : m.path.toList = [] := by
          have : m.path = #[] := by simpa using hp
          rw [this]
        simp only [nilAhead, Sem.run_bind, rInfo hi, Result.andThen_ok, hf, hpl, followBlind, Sem.run_pure, hm]
        cases pr with
        | true => rfl
        | false =>
          simp only [Sem.run_bind, rUnd hu, Result.andThen_ok]
          cases d <;> first | rfl | cases hd
theorem call_ok {X : Extn} (hX : ExtOk P G X) (h : Rel G μ N0 σ w) {ρ ρ' : Operand → Value} {c : Call} {ty : TypeId} {r : NX × Mem}
    (hb : (match c.callee with
    | .builtin b => aBuiltin P b c.argTypes (c.args.toList.map ρ) σ
    | .invoke recv name => match ρ recv with
      | .iface t v => match aMethod P t name, P.underlying t with
        | some (f, true), some (.pointer _) => aCallFunc P X f (v :: c.args.toList.map ρ) σ
        | some (_, _), some (.pointer _) => none
        | some (f, false), some _ => aCallFunc P X f (v :: c.args.toList.map ρ) σ
        | _, _ => none
      | .nilIface => some (.panic, σ)
      | _ => none
    | .value f => match ρ f with
      | .func (.func g) first captured => aCallFunc P X g (first.toList ++ c.args.toList.map ρ ++ captured.toList) σ
      | .nilFunc => some (.panic, σ)
      | _ => none) = some r)
    (hok : (c.args.toList.all okB = true) ∧ (match c.callee with
    | .value f => okB f
    | .invoke r _ => okB r
    | .builtin _ => true) = true)
    (hρ : ∀ x, okB x = true → ρ' x = conc μ (ρ x) ∧ wf σ.nxt (ρ x)) : OpOk P G μ N0 σ w (do let d ← resolve ρ' c ty; invoke d.target d.args) r := by
  obtain ⟨ha, hc⟩ := hok
  obtain ⟨e1, e2⟩ := map_rho hρ ha
  have hargs : c.args.map ρ' = ⟨(c.args.toList.map ρ).map (conc μ)⟩ := by apply Array.ext'; simp only [Array.toList_map]; exact e1
  have carry : ∀ {s s' : Sem Next}, (s.run P w = s'.run P w) → OpOk P G μ N0 σ w s' r → OpOk P G μ N0 σ w s r := by
    intro s s' hs ho
    obtain ⟨μ', w', k1, k2, k3⟩ := ho
    refine ⟨μ', w', k1, k2, ?_⟩
    rw [hs]; exact k3
  cases hcal : c.callee with
  | builtin b =>
    rw [hcal] at hb; simp only at hb
    refine carry ?_ (aBuiltin_ok h hb e2 ty (c.args.map fun | .const _ => true | _ => false))
    simp only [resolve, hcal, hargs, Sem.run_bind, Sem.run_pure, Result.andThen_ok, invoke]
    rfl
  | invoke recv name =>
    rw [hcal] at hb hc; simp only at hb hc
    have er := (hρ recv hc).1
    have wr := (hρ recv hc).2
    obtain ⟨y, hy⟩ := nilDeref_run Next P w
    cases hx : ρ recv <;> rw [hx] at hb er wr <;> (try (cases hb; done))
    case nilIface =>
      cases hb
      refine OpOk.panic0 (x := y) h ?_
      simp only [resolve, hcal, hargs, er, conc, Sem.run_bind, Sem.run_pure, Result.andThen_ok, invoke]
      have hget : (#[Value.nilIface] ++ (⟨(c.args.toList.map ρ).map (conc μ)⟩ : Array Value))[0]? = some .nilIface := by simp
      rw [hget]
      exact hy
    case iface t v =>
      simp only at hb
      have key : ∃ f pr d, aMethod P t name = some (f, pr) ∧ P.underlying t = some d ∧ pr = isPtrD d ∧ aCallFunc P X f (v :: c.args.toList.map ρ) σ = some r := by
        cases hm : aMethod P t name with
        | none => rw [hm] at hb; cases hb
        | some q =>
          obtain ⟨f, pr⟩ := q
          cases hu : P.underlying t with
          | none => rw [hm, hu] at hb; cases pr <;> cases hb
          | some d =>
            rw [hm, hu] at hb
            refine ⟨f, pr, d, rfl, rfl, ?_⟩
            cases d <;> cases pr <;> first | (cases hb; done) | exact ⟨rfl, hb⟩
      obtain ⟨f, pr, d, hm, hu, hd, hcf⟩ := key
      refine carry ?_ (aCallFunc_ok hX h hcf ⟨wr, e2⟩)
      have hmd0 : 0 < Made.depth := by decide
      have hmd : ∃ n, P.types.size + Made.depth = n + 1 := ⟨P.types.size + Made.depth - 1, by omega⟩
      obtain ⟨n, hn⟩ := hmd
      simp only [resolve, hcal, hargs, er, conc, Sem.run_bind, Sem.run_pure, Result.andThen_ok, invoke]
      have hget : (#[Value.iface t (conc μ v)] ++ (⟨(c.args.toList.map ρ).map (conc μ)⟩ : Array Value))[0]? = some (.iface t (conc μ v)) := by simp
      have hext : (#[Value.iface t (conc μ v)] ++ (⟨(c.args.toList.map ρ).map (conc μ)⟩ : Array Value)).extract 1 (#[Value.iface t (conc μ v)] ++ (⟨(c.args.toList.map ρ).map (conc μ)⟩ : Array Value)).size = ⟨(c.args.toList.map ρ).map (conc μ)⟩ := by
        apply Array.ext'; simp [List.take_of_length_le]
      rw [hget]
      simp only [hext, callMethod, Sem.run_bind, run_program, Result.andThen_ok, hn, method_run hm hu hd]
      congr 2
      apply Array.ext'; simp
  | value f =>
    rw [hcal] at hb hc; simp only at hb hc
    have er := (hρ f hc).1
    have wr := (hρ f hc).2
    obtain ⟨y, hy⟩ := nilDeref_run Next P w
    cases hx : ρ f <;> rw [hx] at hb er wr <;> (try (cases hb; done))
    case nilFunc =>
      cases hb
      refine OpOk.panic0 (x := y) h ?_
      simp only [resolve, hcal, hargs, er, conc, Sem.run_bind, Sem.run_pure, Result.andThen_ok, invoke, Deferred.ofValue]
      exact hy
    case func fn first captured =>
      cases fn <;> simp only at hb <;> (try (cases hb; done))
      rename_i g
      have hwf : wfL σ.nxt (first.toList ++ c.args.toList.map ρ ++ captured.toList) := by
        refine (wfL_iff _ _).2 fun v hv => ?_
        have w1 := (wfA_iff _ _).1 wr.1
        have w2 := (wfA_iff _ _).1 wr.2
        rcases List.mem_append.1 hv with hv | hv
        · rcases List.mem_append.1 hv with hv | hv
          · exact w1 v (by simpa using hv)
          · exact (wfL_iff _ _).1 e2 v hv
        · exact w2 v (by simpa using hv)
      refine carry ?_ (aCallFunc_ok hX h hb hwf)
      simp only [resolve, hcal, hargs, er, conc_func, Sem.run_bind, Sem.run_pure, Result.andThen_ok, invoke, Deferred.ofValue]
      congr 2
      apply Array.ext'; simp

set_option maxHeartbeats 1000000 in
theorem evalOp0_ok {X : Extn} (hX : ExtOk P G X) (h : Rel G μ N0 σ w) {ρ ρ' : Operand → Value} {o : Oper} {r : NX × Mem} (hb : evalOp0 P X ρ σ o = some r) (hok : okOp o.op = true)
    (hρ : ∀ x, okB x = true → ρ' x = conc μ (ρ x) ∧ wf σ.nxt (ρ x)) : OpOk P G μ N0 σ w (execOp ρ' o) r := by
  unfold evalOp0 at hb
  unfold execOp
  cases hop : o.op <;> (rw [hop] at hb hok) <;> (try (cases hb; done)) <;> simp only [okOp, Bool.and_eq_true] at hok <;> (try simp only)
  case move x =>
    cases hb
    exact OpOk.pure h (by rw [(hρ x hok).1]; rfl) (hρ x hok).2
  case assign x =>
    cases hb
    exact OpOk.pure h (by rw [(hρ x hok).1]; rfl) (hρ x hok).2
  case pick c a b =>
    simp only at hb
    cases hc : ρ c <;> rw [hc] at hb <;> (try (cases hb; done))
    rename_i t
    cases hb
    have e := (hρ c hok.1.1).1
    rw [hc] at e
    cases t with
    | true => exact OpOk.pure h (by simp only [e, conc, Sem.run_bind, asBool, Sem.run_pure, Result.andThen_ok, if_true, cond_true]; rw [(hρ a hok.1.2).1]) (hρ a hok.1.2).2
    | false => exact OpOk.pure h (by simp only [e, conc, Sem.run_bind, asBool, Sem.run_pure, Result.andThen_ok, Bool.false_eq_true, if_false, cond_false]; rw [(hρ b hok.2).1]) (hρ b hok.2).2
  case alloc elem =>
    simp only at hb
    cases hz : zeroOf P elem with
    | none => rw [hz] at hb; cases hb
    | some z =>
      rw [hz] at hb
      have hzc := zeroOf_const hz
      obtain ⟨μ', w', p, e1, e2, e3, e4, e5⟩ := rNew (P := P) h hb (wf_const _ _ hzc)
      refine ⟨μ', w', e3, e4, ?_⟩
      rw [e1]
      refine ⟨?_, e5⟩
      rw [conc_const μ z hzc] at e2
      simp only [Instr.alloc, Sem.run_bind, rZero hz, Result.andThen_ok, e2, Sem.run_pure]
      rfl
  case box elem x =>
    simp only at hb
    obtain ⟨μ', w', p, e1, e2, e3, e4, e5⟩ := rNew (P := P) h hb (hρ x hok).2
    refine ⟨μ', w', e3, e4, ?_⟩
    rw [e1]
    refine ⟨?_, e5⟩
    rw [← (hρ x hok).1] at e2
    simp only [Instr.box, Sem.run_bind, Result.andThen_ok, e2, Sem.run_pure]
    rfl
  case build t parts =>
    simp only at hb
    cases hv : aBuild P t (parts.toList.map fun p => (p.1, ρ p.2)) with
    | none => rw [hv] at hb; cases hb
    | some v =>
      rw [hv] at hb; cases hb
      obtain ⟨e1, e2⟩ := parts_rho hρ hok
      obtain ⟨e3, e4⟩ := aBuild_run (P := P) (μ := μ) (σ := σ) (w := w) (parts := ⟨parts.toList.map fun p => (p.1, ρ p.2)⟩) hv e2
      exact OpOk.pure h (by simp only [Sem.run_bind]; rw [e1, e3]; rfl) e4
  case buildSlice t len parts =>
    obtain ⟨e1, e2⟩ := parts_rho hρ hok
    have := aBuildSlice_ok (P := P) h (parts := ⟨parts.toList.map fun p => (p.1, ρ p.2)⟩) hb e2
    rw [← e1] at this
    exact this
  case load t x =>
    simp only at hb
    have e := (hρ x hok).1
    cases hx : ρ x <;> rw [hx] at hb <;> (try (cases hb; done))
    rename_i a
    cases a with
    | none => cases hb
    | some a =>
      simp only at hb
      cases hl : aLoad P σ t a with
      | none => rw [hl] at hb; cases hb
      | some v =>
        rw [hl] at hb; cases hb
        rw [hx] at e
        obtain ⟨e1, e2⟩ := rLoad (P := P) h hl
        exact OpOk.pure h (by simp only [e, conc_ptr, Instr.loadAt, Instr.sureAddr, Sem.run_bind, Sem.run_pure, Result.andThen_ok, e1]) e2
  case store t x v =>
    simp only at hb
    have e := (hρ x hok.1).1
    cases hx : ρ x <;> rw [hx] at hb <;> (try (cases hb; done))
    rename_i a
    cases a with
    | none => cases hb
    | some a =>
      simp only at hb
      cases hl : aStore P σ t a (ρ v) with
      | none => rw [hl] at hb; cases hb
      | some σ' =>
        rw [hl] at hb; cases hb
        rw [hx] at e
        obtain ⟨w', e1, e2, e3, e4⟩ := rStore (P := P) h hl (hρ v hok.2).2
        refine ⟨μ, w', e2, e3, ?_⟩
        rw [← (hρ v hok.2).1] at e1
        simp only [e, conc_ptr, Instr.storeAt, Instr.sureAddr, Sem.run_bind, Sem.run_pure, Result.andThen_ok, e1]
  case nilCheck x =>
    simp only at hb
    have e := (hρ x hok).1
    have hw := (hρ x hok).2
    obtain ⟨y, hy⟩ := nilDeref_run Next P w
    cases hx : ρ x <;> rw [hx] at hb e hw
    case pointer a =>
      cases a with
      | none => cases hb; exact OpOk.panic0 h (by simp only [e, conc]; exact hy)
      | some a => cases hb; exact OpOk.pure h (by simp only [e, conc]; rfl) hw
    case nilIface => cases hb; exact OpOk.panic0 h (by simp only [e, conc]; exact hy)
    case nilFunc => cases hb; exact OpOk.panic0 h (by simp only [e, conc]; exact hy)
    case func fn f c =>
      cases fn with
      | method m =>
        simp only at hb
        have key : ∀ (t : TypeId) (v : Value) (l : List Value) (pr : Bool) (g : FuncId) (d : TypeDesc), f = ⟨.iface t v :: l⟩ → aMethod P t m = some (g, pr) → P.underlying t = some d → pr = isPtrD d →
            ((match ρ' x with
              | .pointer none | .nilIface | .nilFunc => runtimePanic .nilDeref
              | .func (.method name) first captured =>
                match (first[0]? : Option Value) with
                | some .nilIface => runtimePanic .nilDeref
                | some (.iface t w) => do
                  if (← nilAhead ((← program).types.size + Made.depth) t w name) != some false then
                    unsupported (.noEntry "op/nilCheck.the method's receiver behind this interface value is a nil pointer, or cannot be seen to be none, and the arguments act or may panic (ledger 612)")
                  pure (.value (.func (.method name) first captured))
                | _ => pure (.value (.func (.method name) first captured))
              | x => pure (.value x) : Sem Next)).run P w = .ok (.value (conc μ (.func (.method m) f c))) w := by
          intro t v l pr g d hf hm hu hd
          have hn := nilAhead_run (w := w) hm hu hd (conc μ v)
          subst hf
          have e0 : ((⟨conc μ (.iface t v) :: concL μ l⟩ : Array Value)[0]? : Option Value) = some (.iface t (conc μ v)) := rfl
          rw [e]
          simp only [conc, concA, concL] at e0 ⊢
          rw [e0]
          simp only [Sem.run_bind, Sem.run_pure, run_program, Result.andThen_ok, hn]
          rfl
        obtain ⟨fl⟩ := f
        cases fl with
        | nil => cases hb
        | cons a l =>
          cases a <;> simp only [nilMeth] at hb <;> (try (cases hb; done))
          · rename_i t v
            split at hb <;> (try (cases hb; done)) <;> cases hb
            · rename_i h1 h2; exact OpOk.pure h (key t v l _ _ _ rfl h1 h2 rfl) hw
            · rename_i h0 h1 h2; exact OpOk.pure h (key t v l _ _ _ rfl h1 h2 (by rename_i d; cases d <;> first | rfl | exact (h0 _ rfl).elim)) hw
          · cases hb; exact OpOk.panic0 h (by rw [e]; exact hy)
      | _ => simp only at hb <;> cases hb <;> exact OpOk.pure h (by simp only [e, conc]; rfl) hw
    case slice a l c => cases hb; cases a <;> exact OpOk.pure h (by simp only [e, conc]; rfl) hw
    case map m => cases hb; cases m <;> exact OpOk.pure h (by simp only [e, conc]; rfl) hw
    case chan m =>
      cases hb
      cases m with
      | none => exact OpOk.pure h (by simp only [e, conc]; rfl) hw
      | some r => refine OpOk.pure h ?_ hw; rcases decV_cases (μ r).blk with ⟨k, n, e1⟩ | ⟨s, e1⟩ <;> simp only [e, conc, e1] <;> rfl
    all_goals (cases hb; exact OpOk.pure h (by simp only [e, conc]; rfl) hw)
  case binOp op t x y yt =>
    obtain ⟨v, hv, rfl⟩ := st_inv hb
    have := aBin_ok (P := P) h hv
    rw [← (hρ x hok.1).1, ← (hρ y hok.2).1] at this
    exact this
  case unOp op t x =>
    obtain ⟨v, hv, rfl⟩ := st_inv hb
    have := aUn_ok (P := P) h hv
    rw [← (hρ x hok).1] at this
    exact this
  case convert s d x =>
    have := aConv_ok (P := P) h hb (hρ x hok).2
    rw [← (hρ x hok).1] at this
    exact this
  case makeInterface t x =>
    simp only at hb
    cases hu : P.underlying t with
    | none => rw [hu] at hb; cases hb
    | some d =>
      rw [hu] at hb
      have e := (hρ x hok).1
      cases d <;> (try (cases hb; done)) <;> cases hb <;>
        exact OpOk.pure h (by simp only [Instr.makeInterface, Sem.run_bind, rUnd hu, Result.andThen_ok, Sem.run_pure, e]; rfl) (hρ x hok).2
  case makeFunc fn first captured =>
    simp only at hb
    have fin : r = (.val (.func fn ⟨first.toList.map ρ⟩ ⟨captured.toList.map ρ⟩), σ) := by
      cases fn <;> (try (cases hb; done)) <;> cases hb <;> rfl
    subst fin
    obtain ⟨e1, e2⟩ := map_rho hρ hok.1
    obtain ⟨e3, e4⟩ := map_rho hρ hok.2
    refine OpOk.pure h ?_ ⟨e2, e4⟩
    simp only [Instr.makeFunc, Sem.run_bind, Sem.run_pure, Result.andThen_ok, conc_func]
    congr 3
    · apply Array.ext'; simp only [Array.toList_map]; exact e1
    · apply Array.ext'; simp only [Array.toList_map]; exact e3
  case makeMap t r' =>
    simp only [natBlt, cond_decide] at hb
    by_cases hl : σ.nxt < 1099511627776
    · rw [if_pos hl] at hb
      have key := h.newOb hl (.map [] 0) (.map #[] 0) 0 (by intro e he; cases he) ⟨by rw [upd_same]; exact heap_alloc_new _ _, by rw [upd_same]; exact h.base⟩
      have fin : ∀ s : Sem Next, s.run P w = .ok (.value (.map (some w.heap.size))) (w.alloc (.map #[] 0)) → OpOk P G μ N0 σ w s (.val (.map (some σ.nxt)), σ.add (.map [] 0)) := by
        intro s hs
        refine ⟨_, _, key.1, key.2, ?_, Nat.lt_succ_self _⟩
        rw [hs]; simp [conc, upd_same]
      cases r' with
      | none =>
        cases hb
        refine fin _ ?_
        simp [Instr.makeMap]
      | some x =>
        simp only at hb
        have e := (hρ x hok).1
        cases hx : ρ x <;> rw [hx] at hb e <;> (try (cases hb; done))
        rename_i k n
        cases hu : P.underlying t with
        | none => rw [hu] at hb; cases hb
        | some d =>
          rw [hu] at hb
          cases d <;> (try (cases hb; done))
          cases hb
          refine fin _ ?_
          simp [Instr.makeMap, rUnd hu, e, conc, asInt, asIntOf]
    · rw [if_neg hl] at hb; cases hb
  case makeSlice t l c =>
    have := aMakeSlice_ok (P := P) h hb
    rw [← (hρ l hok.1).1, ← (hρ c hok.2).1] at this
    exact this
  case slice t x lo hi mx =>
    obtain ⟨v, hv, rfl⟩ := st_inv hb
    have := aSlice_ok (P := P) h hv (hρ x hok.1.1.1).2
    rw [← (hρ x hok.1.1.1).1, ← opt_rho hρ hok.1.1.2, ← opt_rho hρ hok.1.2, ← opt_rho hρ hok.2] at this
    exact this
  case fieldAddr s x f =>
    obtain ⟨v, hv, rfl⟩ := st_inv hb
    have := aFieldAddr_ok (P := P) h hv (hρ x hok).2
    rw [← (hρ x hok).1] at this
    exact this
  case field t x f =>
    obtain ⟨v, hv, rfl⟩ := st_inv hb
    have := aField_ok (P := P) h hv (hρ x hok).2
    rw [← (hρ x hok).1] at this
    exact this
  case indexAddr t x ix =>
    obtain ⟨v, hv, rfl⟩ := st_inv hb
    have := aIndexAddr_ok (P := P) h hv (hρ x hok.1).2
    rw [← (hρ x hok.1).1, ← (hρ ix hok.2).1] at this
    exact this
  case index t x ix =>
    obtain ⟨v, hv, rfl⟩ := st_inv hb
    have := aIndex_ok (P := P) h hv (hρ x hok.1).2
    rw [← (hρ x hok.1).1, ← (hρ ix hok.2).1] at this
    exact this
  case extract t i =>
    simp only at hb
    have e := (hρ t hok).1
    have hw := (hρ t hok).2
    cases hx : ρ t <;> rw [hx] at hb e hw <;> (try (cases hb; done))
    rename_i vs
    cases vs with
    | mk l =>
      simp only at hb
      cases hi : l[i]? with
      | none => rw [hi] at hb; cases hb
      | some v =>
        rw [hi] at hb; cases hb
        refine OpOk.pure h ?_ ((wfL_iff _ _).1 hw v (List.mem_of_getElem? hi))
        have : (⟨l.map (conc μ)⟩ : Array Value)[i]? = some (conc μ v) := by
          rw [show (⟨l.map (conc μ)⟩ : Array Value) = (l.map (conc μ)).toArray from rfl, List.getElem?_toArray, List.getElem?_map, hi]; rfl
        simp only [e, conc_tuple, Instr.extract, this, Sem.run_bind, Sem.run_pure, Result.andThen_ok]
  case lookup t x ix ok =>
    obtain ⟨v, hv, rfl⟩ := st_inv hb
    have := aLookup_ok (P := P) h hv
    rw [← (hρ x hok.1).1, ← (hρ ix hok.2).1] at this
    exact this
  case mapUpdate t m k v =>
    have := aMapUpdate_ok (P := P) h hb (hρ k hok.1.2).2 (hρ v hok.2).2
    rw [← (hρ m hok.1.1).1, ← (hρ k hok.1.2).1, ← (hρ v hok.2).1] at this
    exact this
  case typeAssert x xt t ok =>
    obtain ⟨v, hv, rfl⟩ := st_inv hb
    have := aTypeAssert_ok (P := P) (xt := xt) h hv (hρ x hok).2
    rw [← (hρ x hok).1] at this
    exact this
  case range t x =>
    have := aRange_ok (P := P) h hb (hρ x hok).2
    rw [← (hρ x hok).1] at this
    exact this
  case next x s =>
    have := aNext_ok (P := P) (ty := o.type) h hb
    rw [← (hρ x hok).1] at this
    exact this
  case panic x =>
    simp only at hb
    have e := (hρ x hok).1
    cases hx : ρ x <;> rw [hx] at hb e <;> (try (cases hb; done))
    cases hb
    exact OpOk.panic0 (x := conc μ (ρ x)) h (by rw [hx]; simp only [e, conc, Instr.panic, Sem.run_bind, run_goPanic, Result.andThen_halt])
  case call c => exact call_ok hX h hb hok hρ
theorem evalOp_ok {X : Extn} (hX : ExtOk P G X) (h : Rel G μ N0 σ w) {ρ ρ' : Operand → Value} {o : Oper} {r : NX × Mem} (hb : evalOp P X ρ σ o = some r) (hok : okOp o.op = true)
    (hρ : ∀ x, okB x = true → ρ' x = conc μ (ρ x) ∧ wf σ.nxt (ρ x)) : OpOk P G μ N0 σ w (execOp ρ' o) r := by
  unfold evalOp at hb
  cases h0 : evalOp0 P X ρ σ o with
  | some q => rw [h0] at hb; cases hb; exact evalOp0_ok hX h h0 hok hρ
  | none => rw [h0] at hb; exact hX.nam o r ρ ρ' σ μ N0 w hb hok h hρ
end Vai

namespace Vai
open Go Go.RowKit

variable {P : Program} {G : Sym} {μ : Mu} {N0 : Nat} {σ : Mem} {w : World}
variable {Df : List Deferred}

structure EnvRel (Df : List Deferred) (μ : Mu) (n : Nat) (e : Env) (a : Act) : Prop where
  defers : a.defers = Df
  size : a.tmps.size = e.size
  lim : e.size ≤ 1000000
  val : ∀ t, a.tmps.getD t undef = conc μ (e.tmp t)
  wf : ∀ t, Vai.wf n (e.tmp t)

theorem uv_undef : uv = undef := rfl
theorem conc_uv (μ : Mu) : conc μ uv = undef := rfl

theorem EnvRel.mono {n n' : Nat} {μ μ' : Mu} {e : Env} {a : Act} (h : EnvRel Df μ n e a) (ha : Agree n μ μ') (hn : n ≤ n') : EnvRel Df μ' n' e a :=
  ⟨h.defers, h.size, h.lim, fun t => by rw [h.val t, conc_agree ha _ (h.wf t)], fun t => Vai.wf_mono hn _ (h.wf t)⟩

theorem EnvRel.eval {n : Nat} {e : Env} {a : Act} (h : EnvRel Df μ n e a) (hG : True) (hg : ∀ g, g < 8192 → (μ g).blk = gpl G g ∧ (μ g).sh = 0) (hn : 8192 ≤ n) (x : Operand) (hx : okB x = true) :
    a.eval x = conc μ (e.eval x) ∧ Vai.wf n (e.eval x) := by
  cases x with
  | tmp t => exact ⟨h.val t, h.wf t⟩
  | const v => exact ⟨(conc_const μ v hx).symm, wf_const n v hx⟩
  | global g =>
    have hlt : g < 4096 := by
      have : Nat.blt g 4096 = true := hx
      rw [natBlt] at this; simpa using this
    obtain ⟨h1, h2⟩ := hg g (by omega)
    rw [gpl, if_pos hlt] at h1
    refine ⟨?_, (show g < n by omega)⟩
    show Value.pointer (some ⟨g, 0, none⟩) = .pointer (some (μ.addr ⟨g, 0, none⟩))
    simp [Mu.addr, h1, h2]
  | func f => exact ⟨rfl, trivial, trivial⟩

theorem EnvRel.put {n : Nat} {e e' : Env} {a : Act} {dst : Option Tmp} {v : Value} (h : EnvRel Df μ n e a) (hp : e.put dst v = some e') (hv : Vai.wf n v) :
    EnvRel Df μ n e' (a.put dst (conc μ v)) := by
  rw [Env.put_eq] at hp
  cases dst with
  | none => cases hp; exact h
  | some d =>
    simp only [natBlt, cond_decide] at hp
    by_cases hd : d < e.size
    · rw [if_pos hd] at hp; cases hp
      have hlim : d < 1099511627776 := Nat.lt_of_lt_of_le hd (Nat.le_trans h.lim (by decide))
      have tmp : ∀ t, (⟨e.tmps.set d v, e.size⟩ : Env).tmp t = if t = d then v else e.tmp t := by
        intro t
        rw [Env.tmp_eq, Env.tmp_eq]
        simp only
        rw [T.get_set _ _ _ _ hlim]
        by_cases ht : t = d <;> simp [ht]
      refine ⟨h.defers, by simp [Act.put, h.size], h.lim, ?_, ?_⟩
      · intro t
        rw [tmp]
        simp only [Act.put, Array.getD_eq_getD_getElem?, Array.getElem?_setIfInBounds]
        by_cases ht : d = t
        · subst ht
          rw [if_pos rfl, if_pos (by rw [h.size]; exact hd), if_pos rfl]; rfl
        · rw [if_neg ht, if_neg (fun e => ht e.symm)]
          have := h.val t
          rw [Array.getD_eq_getD_getElem?] at this
          exact this
      · intro t; rw [tmp]; split
        · exact hv
        · exact h.wf t
    · rw [if_neg hd] at hp; cases hp

theorem wants_eq {n : Nat} {e : Env} {a : Act} (h : EnvRel Df μ n e a) (ops : Array Oper) (o : Oper) : Region.wanted o (yielded ops a.tmps) = wants ops e o := by
  rw [wants_def]; unfold Region.wanted
  cases o.guard with
  | none => rfl
  | some q =>
    obtain ⟨j, want⟩ := q
    simp only
    unfold yielded
    cases hd : (ops[j]?).bind (·.dst) with
    | none => rfl
    | some d =>
      simp only [Option.bind_some]
      have hv := h.val d
      rw [Array.getD_eq_getD_getElem?] at hv
      cases ht : a.tmps[d]? with
      | none =>
        rw [ht] at hv
        simp only [Option.getD_none] at hv
        have : e.tmp d = .tuple #[] := by
          cases hq : e.tmp d with
          | tuple vs =>
            rw [hq] at hv
            have h0 : concA μ vs = #[] := by
              have : Value.tuple #[] = Value.tuple (concA μ vs) := hv
              exact (Value.tuple.inj this).symm
            rw [concA_map] at h0
            have : vs = #[] := by simpa using h0
            rw [this]
          | pointer p => rw [hq] at hv; cases p <;> cases hv
          | slice p l c => rw [hq] at hv; cases p <;> cases hv
          | map r => rw [hq] at hv; cases r <;> cases hv
          | chan r =>
            rw [hq] at hv
            cases r with
            | none => cases hv
            | some r => simp only [conc] at hv; rcases decV_cases (μ r).blk with ⟨k, n, e⟩ | ⟨s, e⟩ <;> rw [e] at hv <;> cases hv
          | _ => rw [hq] at hv; cases hv
        rw [this]; rfl
      | some v =>
        rw [ht] at hv
        simp only [Option.getD_some] at hv
        subst hv
        cases hq : e.tmp d with
        | bool b => rfl
        | pointer p => cases p <;> rfl
        | slice p l c => cases p <;> rfl
        | map r => cases r <;> rfl
        | chan r =>
          cases r with
          | none => rfl
          | some r => simp only [conc]; rcases decV_cases (μ r).blk with ⟨k, n, e⟩ | ⟨s, e⟩ <;> rw [e] <;> rfl
        | _ => rfl

def CallOk (P : Program) (G : Sym) (call : CallF) : Prop :=
  ∀ (f : FuncId) (args : Array Value) (σ : Mem) (r : FR) (σ' : Mem), call f args σ = some (r, σ') → ∀ (μ : Mu) (N0 : Nat) (w : World), Rel G μ N0 σ w → wfA σ.nxt args →
    Calls P f (concA μ args) w fun en w' => ∃ μ', Rel G μ' N0 σ' w' ∧ Ext μ σ w μ' σ' w' ∧ match r with
      | .ret v => en = .returned (conc μ' v) ∧ wf σ'.nxt v
      | .panic => ∃ v, en = .panicked [{ v, recovered := false }]

def XPost (Q : Exit → Act → World → Prop) (x : XO) (a : Act) (w : World) : Prop :=
  match x with
  | .normal => Q .normal a w
  | .exit id => Q (.exit id) a w
  | .ret => Q .ret a w
  | .panic => ∀ v, Q (.panic [{ v, recovered := false }]) a w

/-- Where an evaluation leads. -/
def Goes (Df : List Deferred) (G : Sym) (μ : Mu) (N0 : Nat) (σ : Mem) (w : World) (σ' : Mem) (e' : Env) (K : Act → World → Prop) : Prop :=
  ∀ μ' w' a', Rel G μ' N0 σ' w' → Ext μ σ w μ' σ' w' → EnvRel Df μ' σ'.nxt e' a' → K a' w'

/-- The same where it panics: of the variables nothing is said. -/
theorem evalStep_ok {X : Extn} (hX : ExtOk P G X) (hG : True) {call : CallF} (hc : CallOk P G call) (h : Rel G μ N0 σ w) {ops : Array Oper} {o : Oper} {e e' : Env} {σ' : Mem} {x : XO} {a : Act}
    (hb : evalStep P X call ops o e σ = some (x, e', σ')) (hok : okOp o.op = true) (he : EnvRel Df μ σ.nxt e a) (next : Act → World → Prop) (Q : Exit → Act → World → Prop)
    (hk : Goes Df G μ N0 σ w σ' e' fun a' w' => match x with
      | .normal => next a' w'
      | .panic => ∀ v, Q (.panic [{ v, recovered := false }]) a' w'
      | _ => True) :
    if Region.wanted o (yielded ops a.tmps) then o.wp P a w next Q else next (a.put o.dst undef) w := by
  unfold evalStep at hb
  rw [wants_eq he]
  cases hw : wants ops e o with
  | false =>
    rw [hw, cond_false] at hb
    cases hp : e.put o.dst uv with
    | none => rw [hp] at hb; cases hb
    | some e1 =>
      rw [hp] at hb; cases hb
      simp only [Bool.false_eq_true, if_false]
      exact hk μ w _ h (Ext.refl _ _ _) (he.put (v := uv) hp trivial)
  | true =>
    rw [hw, cond_true] at hb
    simp only [if_true]
    cases hop : evalOp P X e.eval σ o with
    | none => rw [hop] at hb; cases hb
    | some r =>
      obtain ⟨nx, σ1⟩ := r
      rw [hop] at hb
      obtain ⟨μ1, w1, r1, x1, hm⟩ := evalOp_ok hX h hop hok (fun y hy => he.eval hG h.glob h.gnxt y hy)
      unfold Oper.wp
      cases nx with
      | val v =>
        simp only at hb hm
        cases hp : e.put o.dst v with
        | none => rw [hp] at hb; cases hb
        | some e1 =>
          rw [hp] at hb; cases hb
          rw [hm.1]
          exact hk μ1 w1 _ r1 x1 ((he.mono x1.agree x1.nxt).put hp hm.2)
      | skip =>
        simp only at hb hm
        cases hp : e.put o.dst uv with
        | none => rw [hp] at hb; cases hb
        | some e1 =>
          rw [hp] at hb; cases hb
          rw [hm]
          exact hk μ1 w1 _ r1 x1 ((he.mono x1.agree x1.nxt).put (v := uv) hp trivial)
      | panic =>
        simp only at hb hm
        cases hb
        obtain ⟨y, hy⟩ := hm
        rw [hy]
        exact hk μ1 w1 _ r1 x1 (he.mono x1.agree x1.nxt) y
      | enter f args =>
        simp only at hb hm
        rw [hm.1]
        show Calls P f _ w1 _
        cases hcl : call f args σ1 with
        | none => rw [hcl] at hb; cases hb
        | some q =>
          obtain ⟨fr, σ2⟩ := q
          rw [hcl] at hb
          refine (hc f args σ1 fr σ2 hcl μ1 N0 w1 r1 hm.2).mono ?_
          rintro en w2 ⟨μ2, r2, x2, hfr⟩
          cases fr with
          | ret v =>
            simp only at hb hfr
            cases hp : e.put o.dst v with
            | none => rw [hp] at hb; cases hb
            | some e1 =>
              rw [hp] at hb; cases hb
              rw [hfr.1]
              exact hk μ2 w2 _ r2 (x1.trans x2) (((he.mono x1.agree x1.nxt).mono x2.agree x2.nxt).put hp hfr.2)
          | panic =>
            simp only at hb hfr
            cases hb
            obtain ⟨y, hy⟩ := hfr
            rw [hy]
            exact hk μ2 w2 _ r2 (x1.trans x2) ((he.mono x1.agree x1.nxt).mono x2.agree x2.nxt) y
end Vai

namespace Vai
open Go Go.RowKit

variable {P : Program} {G : Sym} {μ : Mu} {N0 : Nat} {σ : Mem} {w : World}
variable {Df : List Deferred}

theorem Goes.trans {σ1 σ2 : Mem} {e2 : Env} {K : Act → World → Prop} {μ1 : Mu} {w1 : World} (hx : Ext μ σ w μ1 σ1 w1) (h : Goes Df G μ N0 σ w σ2 e2 K) : Goes Df G μ1 N0 σ1 w1 σ2 e2 K :=
  fun μ' w' a' r x he => h μ' w' a' r (hx.trans x) he

theorem okOps_cons (o : Oper) (l : List Oper) : okOps (o :: l) = cond (okOp o.op) (okOps l) false := rfl
theorem evalOps_nil (P : Program) (X : Extn) (call : CallF) (ops : Array Oper) (e : Env) (σ : Mem) : evalOps P X call ops [] e σ = some (.normal, e, σ) := rfl
theorem evalOps_cons (P : Program) (X : Extn) (call : CallF) (ops : Array Oper) (o : Oper) (l : List Oper) (e : Env) (σ : Mem) : evalOps P X call ops (o :: l) e σ = (match evalStep P X call ops o e σ with
      | some (.normal, e', σ') => evalOps P X call ops l e' σ'
      | r => r) := stepK_eq P X call ops o (evalOps P X call ops l) e σ

/-- The operations from place i on, one behind the other. -/
theorem evalOps_ok {X : Extn} (hX : ExtOk P G X) (hG : True) {call : CallF} (hc : CallOk P G call) {ops : Array Oper} {Q : Exit → Act → World → Prop} : ∀ (l : List Oper) (i : Nat), (∀ k, l[k]? = ops[i + k]?) →
    ∀ {μ : Mu} {σ : Mem} {w : World} {e e' : Env} {σ' : Mem} {x : XO} {a : Act}, Rel G μ N0 σ w → evalOps P X call ops l e σ = some (x, e', σ') → okOps l = true → EnvRel Df μ σ.nxt e a →
    Goes Df G μ N0 σ w σ' e' (XPost Q x) → wpOps P ops Q (List.range' i l.length) a w
  | [], i, _, μ, σ, w, e, e', σ', x, a, h, hb, _, he, hk => by
    rw [evalOps_nil] at hb; cases hb
    exact hk μ w a h (Ext.refl _ _ _) he
  | o :: l, i, hl, μ, σ, w, e, e', σ', x, a, h, hb, hok, he, hk => by
    rw [evalOps_cons] at hb
    rw [okOps_cons] at hok
    have hok1 : okOp o.op = true := by cases h1 : okOp o.op <;> simp [h1] at hok ⊢
    have hok2 : okOps l = true := by rw [hok1] at hok; exact hok
    have h0 : ops[i]? = some o := by have := hl 0; simpa using this.symm
    rw [List.length_cons, List.range'_succ]
    unfold wpOps
    simp only [h0]
    cases hs : evalStep P X call ops o e σ with
    | none => rw [hs] at hb; cases hb
    | some q =>
      obtain ⟨x1, e1, σ1⟩ := q
      rw [hs] at hb
      have step := evalStep_ok hX hG hc h hs hok1 he (wpOps P ops Q (List.range' (i + 1) l.length)) Q (by
        intro μ1 w1 a1 r1 k1 he1
        cases x1 with
        | normal =>
          simp only at hb ⊢
          exact evalOps_ok hX hG hc l (i + 1) (fun k => by have := hl (k + 1); rw [List.getElem?_cons_succ] at this; rw [this]; congr 1; omega) r1 hb hok2 he1 (hk.trans k1)
        | panic =>
          simp only at hb ⊢
          cases hb
          exact hk μ1 w1 a1 r1 k1 he1
        | exit id => trivial
        | ret => trivial)
      split
      · rename_i hw; rw [if_pos hw] at step; exact .inl step
      · rename_i hw; rw [if_neg hw] at step; exact step

def DrawOk (P : Program) (G : Sym) (X : Extn) (D : DrawF) : Prop :=
  ∀ (call : CallF), CallOk P G call → ∀ (id : Nat) (ops : Array Oper), okOps ops.toList = true → ∀ (e : Env) (σ : Mem) (x : XO) (e' : Env) (σ' : Mem), D call ops e σ = some (x, e', σ') → ∀ (Df : List Deferred) (μ : Mu) (N0 : Nat) (w : World) (a : Act),
    Rel G μ N0 σ w → EnvRel Df μ σ.nxt e a → ∀ Q, Goes Df G μ N0 σ w σ' e' (XPost Q x) → (Code.region id ops true).wp P Q a w

theorem XPost.then {Q : Exit → Act → World → Prop} {next : Act → World → Prop} {x : XO} {a : Act} {w : World} (h : match x with | .normal => next a w | x => XPost Q x a w) : XPost (Exit.then next Q) x a w := by
  cases x <;> exact h

theorem evalLoop_ok {body : Env → Mem → Option (XO × Env × Mem)} {c : Code} {Q : Exit → Act → World → Prop}
    (hbody : ∀ {μ : Mu} {σ : Mem} {w : World} {e e' : Env} {σ' : Mem} {x : XO} {a : Act} {Q' : Exit → Act → World → Prop}, Rel G μ N0 σ w → body e σ = some (x, e', σ') → EnvRel Df μ σ.nxt e a → Goes Df G μ N0 σ w σ' e' (XPost Q' x) → c.wp P Q' a w) :
    ∀ (fuel : Nat) {μ : Mu} {σ : Mem} {w : World} {e e' : Env} {σ' : Mem} {x : XO} {a : Act}, Rel G μ N0 σ w → evalLoop body fuel e σ = some (x, e', σ') → EnvRel Df μ σ.nxt e a → Goes Df G μ N0 σ w σ' e' (XPost Q x) →
    Code.rounds P c Q fuel a w
  | 0, μ, σ, w, e, e', σ', x, a, h, hb, he, hk => by
    have : (none : Option (XO × Env × Mem)) = some (x, e', σ') := hb
    cases this
  | fuel + 1, μ, σ, w, e, e', σ', x, a, h, hb, he, hk => by
    have hb' : (match body e σ with
      | some (.normal, e', σ') => evalLoop body fuel e' σ'
      | r => r) = some (x, e', σ') := hb
    rw [rounds_succ]
    cases h1 : body e σ with
    | none => rw [h1] at hb'; cases hb'
    | some q =>
      obtain ⟨x1, e1, σ1⟩ := q
      rw [h1] at hb'
      refine hbody h h1 he ?_
      intro μ1 w1 a1 r1 k1 he1
      cases x1 with
      | normal =>
        simp only at hb'
        exact evalLoop_ok hbody fuel r1 hb' he1 (hk.trans k1)
      | exit id => simp only at hb'; cases hb'; exact hk μ1 w1 a1 r1 k1 he1
      | ret => simp only at hb'; cases hb'; exact hk μ1 w1 a1 r1 k1 he1
      | panic => simp only at hb'; cases hb'; exact hk μ1 w1 a1 r1 k1 he1

theorem evalCode_ok {X : Extn} (hX : ExtOk P G X) (hG : True) {D : DrawF} (hD : DrawOk P G X D) {call : CallF} (hc : CallOk P G call) (fuel : Nat) : ∀ (c : Code), okCode c = true →
    ∀ {μ : Mu} {σ : Mem} {w : World} {e e' : Env} {σ' : Mem} {x : XO} {a : Act} {Q : Exit → Act → World → Prop}, Rel G μ N0 σ w → evalCode P X D call fuel c e σ = some (x, e', σ') → EnvRel Df μ σ.nxt e a →
    Goes Df G μ N0 σ w σ' e' (XPost Q x) → c.wp P Q a w := by
  intro c
  induction c with
  | skip =>
    intro _ μ σ w e e' σ' x a Q h hb he hk
    have : some (XO.normal, e, σ) = some (x, e', σ') := hb
    cases this
    exact wp_skip (hk μ w a h (Ext.refl _ _ _) he)
  | region id ops draw =>
    intro hok μ σ w e e' σ' x a Q h hb he hk
    have hb' : cond draw (D call ops e σ) (evalOps P X call ops ops.toList e σ) = some (x, e', σ') := hb
    cases draw with
    | true => exact hD call hc id ops hok e σ x e' σ' hb' Df μ N0 w a h he Q hk
    | false =>
      refine wp_region ?_
      have := evalOps_ok hX hG hc ops.toList 0 (fun k => by simp) h hb' hok he hk
      rw [Array.length_toList, ← List.range_eq_range'] at this
      exact this
  | seq x y ihx ihy =>
    intro hok μ σ w e e' σ' xo a Q h hb he hk
    have hok' : cond (okCode x) (okCode y) false = true := hok
    have o1 : okCode x = true := by cases h1 : okCode x <;> simp [h1] at hok' ⊢
    have o2 : okCode y = true := by rw [o1] at hok'; exact hok'
    have hb' : (match evalCode P X D call fuel x e σ with
      | some (.normal, e', σ') => evalCode P X D call fuel y e' σ'
      | r => r) = some (xo, e', σ') := hb
    cases h1 : evalCode P X D call fuel x e σ with
    | none => rw [h1] at hb'; cases hb'
    | some q =>
      obtain ⟨x1, e1, σ1⟩ := q
      rw [h1] at hb'
      refine wp_seq (ihx o1 h h1 he ?_)
      intro μ1 w1 a1 r1 k1 he1
      cases x1 with
      | normal =>
        simp only at hb'
        exact ihy o2 r1 hb' he1 (hk.trans k1)
      | exit id => simp only at hb'; cases hb'; exact hk μ1 w1 a1 r1 k1 he1
      | ret => simp only at hb'; cases hb'; exact hk μ1 w1 a1 r1 k1 he1
      | panic => simp only at hb'; cases hb'; exact hk μ1 w1 a1 r1 k1 he1
  | cond c x y ihx ihy =>
    intro hok μ σ w e e' σ' xo a Q h hb he hk
    have hok' : cond (okB c) (cond (okCode x) (okCode y) false) false = true := hok
    have o0 : okB c = true := by cases h1 : okB c <;> simp [h1] at hok' ⊢
    have o1 : okCode x = true := by cases h1 : okCode x <;> simp [h1] at hok' ⊢
    have o2 : okCode y = true := by rw [o0, o1] at hok'; exact hok'
    have hb' : (match e.eval c with
      | .bool t => cond t (evalCode P X D call fuel x e σ) (evalCode P X D call fuel y e σ)
      | _ => none) = some (xo, e', σ') := hb
    have ev := (he.eval hG h.glob h.gnxt c o0).1
    cases hv : e.eval c <;> rw [hv] at hb' ev <;> (try (cases hb'; done))
    rename_i t
    refine wp_cond (t := t) ev ?_
    cases t with
    | true => exact ihx o1 h hb' he hk
    | false => exact ihy o2 h hb' he hk
  | block id body ih =>
    intro hok μ σ w e e' σ' xo a Q h hb he hk
    have hb' : (match evalCode P X D call fuel body e σ with
      | some (.exit j, e', σ') => cond (Nat.beq j id) (some (.normal, e', σ')) (some (.exit j, e', σ'))
      | r => r) = some (xo, e', σ') := hb
    cases h1 : evalCode P X D call fuel body e σ with
    | none => rw [h1] at hb'; cases hb'
    | some q =>
      obtain ⟨x1, e1, σ1⟩ := q
      rw [h1] at hb'
      refine wp_block (ih hok h h1 he ?_)
      intro μ1 w1 a1 r1 k1 he1
      cases x1 with
      | exit j =>
        simp only [natBeq, cond_decide] at hb'
        show (if j = id then Q .normal a1 w1 else Q (.exit j) a1 w1)
        by_cases hj : j = id
        · rw [if_pos hj] at hb' ⊢; cases hb'; exact hk μ1 w1 a1 r1 k1 he1
        · rw [if_neg hj] at hb' ⊢; cases hb'; exact hk μ1 w1 a1 r1 k1 he1
      | normal => simp only at hb'; cases hb'; exact hk μ1 w1 a1 r1 k1 he1
      | ret => simp only at hb'; cases hb'; exact hk μ1 w1 a1 r1 k1 he1
      | panic => simp only at hb'; cases hb'; exact hk μ1 w1 a1 r1 k1 he1
  | loop body ih =>
    intro hok μ σ w e e' σ' xo a Q h hb he hk
    have hb' : evalLoop (evalCode P X D call fuel body) fuel e σ = some (xo, e', σ') := hb
    exact wp_loop_rounds fuel (evalLoop_ok (fun r hbd hee hgo => ih hok r hbd hee hgo) fuel h hb' he hk)
  | rangeFunc f ps x y ihx ihy =>
    intro hok μ σ w e e' σ' xo a Q h hb he hk
    have : (none : Option (XO × Env × Mem)) = some (xo, e', σ') := hb
    cases this
  | exit id =>
    intro hok μ σ w e e' σ' xo a Q h hb he hk
    have : some (XO.exit id, e, σ) = some (xo, e', σ') := hb
    cases this
    exact wp_exit (hk μ w a h (Ext.refl _ _ _) he)
  | scope body ih =>
    intro hok μ σ w e e' σ' xo a Q h hb he hk
    refine wp_scope_straight (ih hok h hb he ?_)
    intro μ1 w1 a1 r1 k1 he1
    have := hk μ1 w1 a1 r1 k1 he1
    cases xo <;> exact this
  | label l =>
    intro hok μ σ w e e' σ' xo a Q h hb he hk
    have : some (XO.normal, e, σ) = some (xo, e', σ') := hb
    cases this
    exact wp_label (hk μ w a h (Ext.refl _ _ _) he)
  | goto l =>
    intro hok μ σ w e e' σ' xo a Q h hb he hk
    have : (none : Option (XO × Env × Mem)) = some (xo, e', σ') := hb
    cases this
  | ret =>
    intro hok μ σ w e e' σ' xo a Q h hb he hk
    have : some (XO.ret, e, σ) = some (xo, e', σ') := hb
    cases this
    exact wp_ret (hk μ w a h (Ext.refl _ _ _) he)
  | refuse why =>
    intro hok μ σ w e e' σ' xo a Q h hb he hk
    have : (none : Option (XO × Env × Mem)) = some (xo, e', σ') := hb
    cases this
end Vai

namespace Vai
open Go Go.RowKit

variable {P : Program} {G : Sym} {μ : Mu} {N0 : Nat} {σ : Mem} {w : World}
variable {Df : List Deferred}

/-- A result's value. -/
noncomputable def aRes (P : Program) (e : Env) (σ : Mem) : ResultVar → Option Value
  | .tmp t => some (e.tmp t)
  | .cell a t => match e.tmp a with
    | .pointer (some ad) => aLoad P σ t ad
    | _ => none

noncomputable def aResL (P : Program) (e : Env) (σ : Mem) (l : List ResultVar) : Option (List Value) :=
  List.rec (motive := fun _ => Option (List Value)) (some []) (fun r _ ih => match ih with
      | none => none
      | some l => match r with
        | .tmp t => some (e.tmp t :: l)
        | .cell a t => match e.tmp a with
          | .pointer (some ad) => match aLoad P σ t ad with
            | some v => some (v :: l)
            | none => none
          | _ => none) l

theorem aResL_cons (P : Program) (e : Env) (σ : Mem) (r : ResultVar) (l : List ResultVar) : aResL P e σ (r :: l) = (match aResL P e σ l with
      | none => none
      | some l => match r with
        | .tmp t => some (e.tmp t :: l)
        | .cell a t => match e.tmp a with
          | .pointer (some ad) => match aLoad P σ t ad with
            | some v => some (v :: l)
            | none => none
          | _ => none) := rfl

def resF (a : Act) (r : ResultVar) : Sem Value :=
  match r with
  | .tmp t => pure (a.tmps.getD t undef)
  | .cell ad t => do loadVar t (← asAddr (a.tmps.getD ad undef))

theorem aResL_run (h : Rel G μ N0 σ w) {e : Env} {a : Act} (he : EnvRel Df μ σ.nxt e a) : ∀ (l : List ResultVar) (vs : List Value), aResL P e σ l = some vs →
    (l.mapM (resF a)).run P w = .ok (vs.map (conc μ)) w ∧ wfL σ.nxt vs
  | [], vs, hb => by
    have : some [] = some vs := hb
    cases this
    exact ⟨by simp, trivial⟩
  | r :: l, vs, hb => by
    have hb' := hb
    rw [aResL_cons] at hb'
    cases hl : aResL P e σ l with
    | none => rw [hl] at hb'; cases hb'
    | some vs' =>
      obtain ⟨ih1, ih2⟩ := aResL_run h he l vs' hl
      rw [hl] at hb'; simp only at hb'
      cases r with
      | tmp t =>
        cases hb'
        refine ⟨?_, he.wf t, ih2⟩
        have hf : resF a (.tmp t) = pure (conc μ (e.tmp t)) := by unfold resF; simp only [he.val t]
        simp only [List.mapM_cons, Sem.run_bind, hf, Sem.run_pure, Result.andThen_ok, ih1, List.map_cons]
      | cell ad t =>
        simp only at hb'
        have ev := he.val ad
        cases hv : e.tmp ad <;> rw [hv] at hb' ev <;> (try (cases hb'; done))
        rename_i p
        cases p with
        | none => cases hb'
        | some p =>
          simp only at hb'
          cases hld : aLoad P σ t p with
          | none => rw [hld] at hb'; cases hb'
          | some v =>
            rw [hld] at hb'; cases hb'
            obtain ⟨k1, k2⟩ := rLoad (P := P) h hld
            refine ⟨?_, k2, ih2⟩
            have hA : asAddr (Value.pointer (some (μ.addr p))) = pure (μ.addr p) := rfl
            have hf : (resF a (.cell ad t)).run P w = .ok (conc μ v) w := by unfold resF; simp only [Sem.run_bind, ev, conc_ptr, hA, Sem.run_pure, Result.andThen_ok, k1]
            simp only [List.mapM_cons, Sem.run_bind, hf, Sem.run_pure, Result.andThen_ok, ih1, List.map_cons]

theorem aResults_run (h : Rel G μ N0 σ w) {e : Env} {a : Act} (he : EnvRel Df μ σ.nxt e a) {fn : Func} {v : Value} (hb : aResults P fn e σ = some v) :
    (results fn a.tmps).run P w = .ok (conc μ v) w ∧ wf σ.nxt v := by
  have hb' : (match aResL P e σ fn.results.toList with
    | none => none
    | some [v] => some v
    | some l => some (.tuple ⟨l⟩)) = some v := hb
  cases hl : aResL P e σ fn.results.toList with
  | none => rw [hl] at hb'; cases hb'
  | some vs =>
    obtain ⟨k1, k2⟩ := aResL_run h he _ _ hl
    have km : (fn.results.mapM (resF a)).run P w = .ok ⟨vs.map (conc μ)⟩ w := by
      rw [Array.mapM_eq_mapM_toList]
      simp only [Sem.run_map, k1, Result.andThen_ok]
    rw [hl] at hb'
    have hres : results fn a.tmps = (do let vs ← fn.results.mapM (resF a); pure (if h : vs.size = 1 then vs[0] else .tuple vs)) := rfl
    rw [hres]
    simp only [Sem.run_bind, km, Result.andThen_ok, Sem.run_pure]
    match vs, hb', k2 with
    | [v'], hb', k2 =>
      simp only [Option.some.injEq] at hb'
      subst hb'
      exact ⟨rfl, k2.1⟩
    | [], hb', k2 =>
      simp only [Option.some.injEq] at hb'
      subst hb'
      exact ⟨rfl, trivial⟩
    | v1 :: v2 :: r, hb', k2 =>
      simp only [Option.some.injEq] at hb'
      subst hb'
      refine ⟨?_, k2⟩
      rw [dif_neg (by simp)]
      rw [conc_tuple]

theorem evalFn_zero (P : Program) (X : Extn) (S : CallF) (D : DrawF) (f : FuncId) (args : Array Value) (σ : Mem) : evalFn P X S D 0 f args σ = none := rfl
theorem evalFn_succ (P : Program) (X : Extn) (S : CallF) (D : DrawF) (n : Nat) (f : FuncId) (args : Array Value) (σ : Mem) : evalFn P X S D (n + 1) f args σ = (match S f args σ with
    | some r => some r
    | none => match P.funcs[f]? with
      | none => none
      | some fn => match fn.body with
        | none => none
        | some c => cond (Nat.ble args.toList.length fn.ntmps && Nat.ble fn.ntmps 1000000 && okCode c) (match evalCode P X D (evalFn P X S D n) n c ⟨T.ofList args.toList 0 .leaf, fn.ntmps⟩ σ with
          | some (.normal, e, σ') => match aResults P fn e σ' with
            | some v => some (.ret v, σ')
            | none => none
          | some (.ret, e, σ') => match aResults P fn e σ' with
            | some v => some (.ret v, σ')
            | none => none
          | some (.panic, _, σ') => some (.panic, σ')
          | _ => none) none) := rfl

/-- What the evaluation of a function says, its call does. -/
theorem evalFn_ok {X : Extn} (hX : ExtOk P G X) (hG : True) {S : CallF} (hS : CallOk P G S) {D : DrawF} (hD : DrawOk P G X D) : ∀ (n : Nat), CallOk P G (evalFn P X S D n)
  | 0 => fun f args σ r σ' hb => by rw [evalFn_zero] at hb; cases hb
  | n + 1 => fun f args σ r σ' hb μ N0 w h hw => by
    have ih := evalFn_ok hX hG hS hD n
    rw [evalFn_succ] at hb
    cases hs : S f args σ with
    | some q => rw [hs] at hb; cases hb; exact hS f args σ r σ' hs μ N0 w h hw
    | none =>
    rw [hs] at hb; simp only at hb
    cases hf : P.funcs[f]? with
    | none => rw [hf] at hb; cases hb
    | some fn =>
      rw [hf] at hb; simp only at hb
      cases hbd : fn.body with
      | none => rw [hbd] at hb; cases hb
      | some c =>
        rw [hbd] at hb; simp only [natBle] at hb
        by_cases hc : (args.toList.length ≤ fn.ntmps ∧ fn.ntmps ≤ 1000000) ∧ okCode c = true
        · rw [decide_eq_true hc.1.1, decide_eq_true hc.1.2, hc.2] at hb
          simp only [Bool.and_self, cond_true] at hb
          obtain ⟨⟨c1, c2⟩, c3⟩ := hc
          have hsz : args.size = args.toList.length := rfl
          have he : EnvRel [] μ σ.nxt ⟨T.ofList args.toList 0 .leaf, fn.ntmps⟩ { tmps := concA μ args ++ Array.replicate (fn.ntmps - (concA μ args).size) undef, defers := [] } := by
            have hcs : (concA μ args).size = args.toList.length := by rw [concA_map]; simp
            have tmp : ∀ t, (⟨T.ofList args.toList 0 .leaf, fn.ntmps⟩ : Env).tmp t = (args.toList[t]?).getD uv := by
              intro t
              rw [Env.tmp_eq]
              simp only
              rw [T.get_ofList _ _ _ _ (by omega)]
              by_cases ht : t < args.toList.length
              · rw [if_pos (by omega)]; simp only [Nat.sub_zero, List.getElem?_eq_getElem ht]; rfl
              · rw [if_neg (by omega), T.get_leaf, List.getElem?_eq_none (by omega)]; rfl
            refine ⟨rfl, ?_, c2, ?_, ?_⟩
            · simp only [Array.size_append, Array.size_replicate, hcs]; omega
            · intro t
              rw [tmp]
              simp only [Array.getD_eq_getD_getElem?]
              rw [Array.getElem?_append]
              by_cases ht : t < args.toList.length
              · rw [if_pos (by omega), concA_map, Array.getElem?_map, List.getElem?_eq_getElem ht]
                rw [show args[t]? = some args.toList[t] from by rw [Array.getElem?_eq_getElem (by omega)]; rfl]
                rfl
              · rw [if_neg (by omega), List.getElem?_eq_none (by omega), Array.getElem?_replicate]
                split <;> rfl
            · intro t
              rw [tmp]
              by_cases ht : t < args.toList.length
              · rw [List.getElem?_eq_getElem ht]
                exact (wfA_iff _ _).1 hw _ (by simp)
              · rw [List.getElem?_eq_none (by omega)]; trivial
          cases hev : evalCode P X D (evalFn P X S D n) n c ⟨T.ofList args.toList 0 .leaf, fn.ntmps⟩ σ with
          | none => rw [hev] at hb; cases hb
          | some q =>
            obtain ⟨x, e', σ2⟩ := q
            rw [hev] at hb
            refine calls_of_wp hf hbd (evalCode_ok hX hG hD ih n c c3 h hev he ?_)
            intro μ1 w1 a1 r1 k1 he1
            cases x with
            | normal =>
              simp only at hb
              cases hr : aResults P fn e' σ2 with
              | none => rw [hr] at hb; cases hb
              | some v =>
                rw [hr] at hb; cases hb
                obtain ⟨q1, q2⟩ := aResults_run r1 he1 hr
                exact ⟨he1.defers, _, q1, μ1, r1, k1, rfl, q2⟩
            | ret =>
              simp only at hb
              cases hr : aResults P fn e' σ2 with
              | none => rw [hr] at hb; cases hb
              | some v =>
                rw [hr] at hb; cases hb
                obtain ⟨q1, q2⟩ := aResults_run r1 he1 hr
                exact ⟨he1.defers, _, q1, μ1, r1, k1, rfl, q2⟩
            | panic =>
              simp only at hb
              cases hb
              intro v
              exact ⟨he1.defers, μ1, r1, k1, v, rfl⟩
            | exit id => cases hb
        · exfalso
          have : ((decide (args.toList.length ≤ fn.ntmps) && decide (fn.ntmps ≤ 1000000)) && okCode c) = false := by
            rw [Bool.eq_false_iff]; intro e; apply hc; simpa using e
          rw [this] at hb; cases hb
theorem noSumm_ok : CallOk P G noSumm := fun _ _ _ _ _ hb => by cases hb
end Vai
