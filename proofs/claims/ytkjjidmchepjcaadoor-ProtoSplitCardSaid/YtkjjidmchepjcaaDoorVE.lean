/- Functions without a body, deferred calls, names. -/
import Derived.Test.YtkjjidmchepjcaaDoorVD
import Derived.Laws.Externs
import Derived.KernelRfl
import Derived.Laws.BytesString
import Derived.Lib.Bytealg
import Derived.Defers
import Derived.Recover
set_option linter.unusedVariables false
set_option linter.unusedSimpArgs false
namespace Vai
open Go Go.RowKit

variable {P : Program} {G : Sym} {μ : Mu} {N0 : Nat} {σ : Mem} {w : World}

theorem noNext {fn : Func} (h1 : Extern.allNextRows.lookup fn.name = none) (h2 : fn.origin = "") : Extern.findNext fn = none := by
  unfold Extern.findNext
  rw [h2]
  have : Extern.allNextRows.lookup "" = none := by kernel_rfl
  simp only [h1, this]; rfl

/-- Functions without a body that are told of. -/
noncomputable def extStd : ExtF := fun fn args σ =>
  cond (fn.name == "maps.clone" && fn.origin == "") (match args with
    | [.iface t (.map (some r))] => match σ.objs.get r with
      | some (.map es clock) => cond (Nat.blt σ.nxt 1099511627776) (some (.val (.iface t (.map (some σ.nxt))), σ.add (.map es clock))) none
      | _ => none
    | _ => none) none

theorem extStd_ok : FnOk P G extStd := by
  intro f fn args σ r μ N0 w hf hbody hb h hw
  unfold extStd at hb
  by_cases hc : fn.name = "maps.clone" ∧ fn.origin = ""
  · rw [hc.1, hc.2] at hb
    simp only [beq_self_eq_true, Bool.and_self, cond_true] at hb
    have hfn : Extern.find fn = some Extern.MapsClone.clone := by
      have g1 : Extern.allGenericRows.lookup "maps.clone" = none := by kernel_rfl
      have g2 : Extern.allTypedRows.lookup "maps.clone" = none := by kernel_rfl
      have g3 : Extern.allRows.lookup "maps.clone" = some Extern.MapsClone.clone := by kernel_rfl
      unfold Extern.find
      simp only [hc.1, g1, g2, g3]; rfl
    have hnx : Extern.findNext fn = none := noNext (by rw [hc.1]; kernel_rfl) hc.2
    obtain ⟨t, m, rfl⟩ : ∃ t m, args = [.iface t (.map (some m))] := by
      split at hb
      · exact ⟨_, _, rfl⟩
      · cases hb
    have run := run_callFunc_extern (args := ⟨[Value.iface t (.map (some m))].map (conc μ)⟩) (w := w) hf (by rw [hc.1]; decide) (by rw [hbody]; rfl) hnx hfn
    · simp only at hb
      cases ho : σ.objs.get m with
      | none => rw [ho] at hb; cases hb
      | some ob =>
        rw [ho] at hb
        cases ob <;> simp only at hb <;> (try (cases hb; done))
        rename_i es clock
        rw [natBlt] at hb
        by_cases hl : σ.nxt < 1099511627776
        · rw [decide_eq_true hl] at hb; simp only [cond_true] at hb; cases hb
          obtain ⟨hid, hwf, hok⟩ := h.ob m _ ho
          have ag := agree_upd μ σ.nxt ⟨w.heap.size, 0, 0⟩
          have key := h.newOb hl (.map es clock) (.map (es.map (concE μ)).toArray clock) 0 hwf
            ⟨by
              rw [upd_same]
              rw [show (w.alloc (.map (es.map (concE μ)).toArray clock)).heap[w.heap.size]? = some (.map (es.map (concE μ)).toArray clock) from heap_alloc_new _ _]
              congr 3
              exact List.map_congr_left fun x hx => (concE_agree ag x (hwf x hx).1 (hwf x hx).2).symm, by rw [upd_same]; exact h.base⟩
          refine ⟨_, _, key.1, key.2, ?_, Nat.lt_succ_self _⟩
          have hg : (getObj (μ m).blk).run P w = .ok (.map (es.map (concE μ)).toArray clock) w := by simp [getObj, Sem.run, hok.1]
          have hcl : (Extern.MapsClone.clone ⟨[conc μ (.iface t (.map (some m)))]⟩).run P w = .ok (.iface t (.map (some w.heap.size))) (w.alloc (.map (es.map (concE μ)).toArray clock)) := by
            show (do
              let .map entries clock ← getObj (μ m).blk | stuck "maps.clone: a map expected"
              pure (.iface t (.map (some (← newObj (.map entries clock))))) : Sem Value).run P w = _
            simp only [Sem.run_bind, hg, Result.andThen_ok]
            simp
          rw [run]
          simp only [List.map_cons, List.map_nil, hcl, Result.andThen_ok]
          simp only [conc, upd_same]
        · rw [decide_eq_false hl] at hb; cases hb
  · have : (fn.name == "maps.clone" && fn.origin == "") = false := by
      rw [Bool.eq_false_iff]; intro e; apply hc; simpa using e
    rw [this] at hb; cases hb
end Vai

namespace Vai
open Go Go.RowKit

variable {P : Program} {G : Sym}

/-- The memory at the begin: the program's own variables, and whole numbers that are known by name alone. -/
noncomputable def mem0 : Mem := ⟨8192, .leaf⟩
def mu0 (G : Sym) : Mu := fun i => ⟨gpl G i, 0, 0⟩
def mu1 (W : World) : Mu := fun i => ⟨W.heap.size, 0, i⟩
theorem rel0 (G : Sym) (W : World) : Rel G (mu0 G) W.heap.size mem0 W :=
  ⟨fun g _ => ⟨rfl, rfl⟩, Nat.le_refl _, by show 8192 ≤ 1099511627776; decide, (fun id o ho => by rw [show mem0.objs = .leaf from rfl, T.get_leaf] at ho; cases ho), (fun i j o p _ ho => by rw [show mem0.objs = .leaf from rfl, T.get_leaf] at ho; cases ho), Nat.le_refl _⟩

/-- What an evaluation says of a law. -/
noncomputable def saidOf (r : Option (FR × Mem)) : Option Bool :=
  match r with
  | some (.ret (.bool b), _) => some b
  | _ => none
theorem saidOf_true {r : Option (FR × Mem)} (h : saidOf r = some true) : ∃ σ, r = some (.ret (.bool true), σ) := by
  unfold saidOf at h
  split at h
  · cases h; exact ⟨_, rfl⟩
  · cases h

noncomputable def isT (o : Option Bool) : Bool := match o with
  | some b => b
  | none => false
theorem isT_true {o : Option Bool} (h : isT o = true) : o = some true := by
  cases o with
  | none => cases h
  | some b => have : b = true := h; rw [this]
/-- Of all numbers below `n`. -/
noncomputable def allB (n : Nat) (p : Nat → Bool) : Bool := Nat.rec (motive := fun _ => Bool) true (fun i ih => cond (p i) ih false) n
theorem allB_spec {p : Nat → Bool} : ∀ {n : Nat}, allB n p = true → ∀ i, i < n → p i = true
  | 0, _, i, h => absurd h (Nat.not_lt_zero i)
  | n + 1, h, i, hi => by
    have h' : cond (p n) (allB n p) false = true := h
    cases hp : p n with
    | false => rw [hp] at h'; cases h'
    | true =>
      rw [hp] at h'
      by_cases e : i = n
      · rw [e]; exact hp
      · exact allB_spec (n := n) h' i (by omega)

/-- A law that the evaluator says is true is true in any world. -/
theorem law_of_eval {call : CallF} (hc : CallOk P G call) {f : FuncId} {args : Array Value} (hw : wfA 8192 args) (he : saidOf (call f args mem0) = some true) (W : World) :
    Calls P f (concA (mu0 G) args) W fun e w' => e = .returned (.bool true) ∧ Below W.heap.size W w' := by
  obtain ⟨σ, hs⟩ := saidOf_true he
  refine Calls.mono (hc f args mem0 _ σ hs (mu0 G) W.heap.size W (rel0 G W) hw) ?_
  rintro en w' ⟨μ', hr, hx, hm⟩
  exact ⟨hm.1, hx.below (rel0 G W)⟩

/-- What a function without arguments says from the begin: true, and nothing of its memory is needed any more. -/
noncomputable def trueS (B : FuncId) : CallF := fun f args σ =>
  cond (Nat.beq f B) (match args, σ with
    | ⟨[]⟩, ⟨n, .leaf⟩ => cond (Nat.beq n 8192) (some (.ret (.bool true), mem0)) none
    | _, _ => none) none
theorem trueS_ok {call : CallF} (hc : CallOk P G call) {B : FuncId} (he : saidOf (call B #[] mem0) = some true) : CallOk P G (trueS B) := by
  obtain ⟨σ1, hs⟩ := saidOf_true he
  intro f args σ r σ' hb μ N0 w h hw
  unfold trueS at hb
  cases hf : Nat.beq f B with
  | false => rw [hf] at hb; cases hb
  | true =>
    rw [hf, cond_true] at hb
    have hfe : f = B := Nat.eq_of_beq_eq_true hf
    subst hfe
    split at hb
    · rename_i a0 s0 n
      cases hn : Nat.beq n 8192 with
      | false => rw [hn] at hb; cases hb
      | true =>
        rw [hn, cond_true] at hb
        cases hb
        have hne : n = 8192 := Nat.eq_of_beq_eq_true hn
        subst hne
        refine Calls.mono (hc f #[] mem0 _ σ1 hs μ N0 w h hw) ?_
        rintro en w' ⟨μ', hr, hx, hm⟩
        refine ⟨μ', ⟨hr.glob, Nat.le_refl _, by show 8192 ≤ 1099511627776; decide, (fun id o ho => by rw [show mem0.objs = .leaf from rfl, T.get_leaf] at ho; cases ho), (fun i j o p _ ho => by rw [show mem0.objs = .leaf from rfl, T.get_leaf] at ho; cases ho), hr.base⟩, ?_, hm.1, trivial⟩
        exact ⟨hx.agree, Nat.le_refl _, hx.os, hx.tape, hx.output, hx.size, hx.frame, (fun id o ho => by rw [show mem0.objs = .leaf from rfl, T.get_leaf] at ho; cases ho), (fun id o ho => by rw [show mem0.objs = .leaf from rfl, T.get_leaf] at ho; cases ho)⟩
    · cases hb

/-- One summary, or else the other. -/
noncomputable def orS (S T : CallF) : CallF := fun f args σ => match S f args σ with
  | some r => some r
  | none => T f args σ
theorem orS_ok {S T : CallF} (hS : CallOk P G S) (hT : CallOk P G T) : CallOk P G (orS S T) := by
  intro f args σ r σ' hb
  unfold orS at hb
  cases hs : S f args σ with
  | some q => rw [hs] at hb; cases hb; exact hS f args σ r σ' hs
  | none => rw [hs] at hb; exact hT f args σ r σ' hb
end Vai

namespace Vai
open Go Go.RowKit

variable {P : Program} {G : Sym} {μ : Mu} {N0 : Nat} {σ : Mem} {w : World}

/-- The bytes of a string or of a slice of bytes. -/
noncomputable def bytesV (σ : Mem) (x : Value) : Option (List UInt8) :=
  match x with
  | .string s => some s.data.toList
  | .slice none _ _ => some []
  | .slice (some a) n _ => match σ.cells a n with
    | some l => bytesOf l
    | none => none
  | _ => none

theorem load_bytes_run (P : Program) (w : World) : ∀ (ns : List Int) (a : Addr) (acc : ByteArray), (∀ j v, (ns.map (Value.int .u8))[j]? = some v → w.cell? (a.add j) = some v) →
    (Extern.Bytes.loadBytes a ns.length acc).run P w = .ok (ns.foldl (fun r n => r.push n.toNat.toUInt8) acc) w
  | [], a, acc, _ => rfl
  | n :: ns, a, acc, h => by
    have h0 := h 0 (.int .u8 n) rfl
    rw [show a.add 0 = a from by simp [Addr.add]] at h0
    have hl : (Go.load a).run P w = .ok (.int .u8 n) w := by
      simp [Go.load, Sem.run, h0]
    show (do
      match ← Go.load a with
      | .int .u8 b => Extern.Bytes.loadBytes (a.add 1) ns.length (acc.push b.toNat.toUInt8)
      | _ => stuck "loadBytes: a byte expected" : Sem ByteArray).run P w = _
    simp only [Sem.run_bind, hl, Result.andThen_ok]
    rw [load_bytes_run P w ns (a.add 1) _ (fun j v hj => by
      have := h (j + 1) v (by simpa using hj)
      have e : (a.add 1).add j = a.add (j + 1) := by
        unfold Addr.add
        by_cases hj : j = 0
        · subst hj; simp
        · simp [hj]; omega
      rw [e]; exact this)]
    rfl
theorem bytesV_ok (h : Rel G μ N0 σ w) {x : Value} {l : List UInt8} (hb : bytesV σ x = some l) : (Extern.Bytes.bytesOf (conc μ x)).run P w = .ok ⟨⟨l⟩⟩ w := by
  unfold bytesV at hb
  split at hb
  · rename_i s
    cases hb
    rfl
  · cases hb; rfl
  · rename_i a n c
    cases hc : σ.cells a n with
    | none => rw [hc] at hb; cases hb
    | some vs =>
      rw [hc] at hb
      simp only at hb
      obtain ⟨h1, ns, rfl, rfl⟩ := bytesOf_spec vs l hb
      obtain ⟨e1, e2⟩ := Mem.cells_spec hc
      rw [List.length_map] at e1
      subst e1
      have := load_bytes_run P w ns (μ.addr a) .empty (fun j v hv => by
        have h2 := e2 j v hv
        have := (h.cell h2).1
        rw [← Mu.addr_add _ _ _ (Mem.cells_spot hc (by intro e; rw [List.length_eq_zero_iff.1 e] at hv; cases hv))] at this
        rw [this]
        rw [List.getElem?_map] at hv
        cases hj : ns[j]? with
        | none => rw [hj] at hv; cases hv
        | some m => rw [hj] at hv; cases hv; rfl)
      rw [push_fold] at this
      exact this
  · cases hb

/-- Where a byte stands first. -/
noncomputable def fndB (c : Nat) (l : List UInt8) : Nat → Int :=
  List.rec (motive := fun _ => Nat → Int) (fun _ => .negSucc 0) (fun b _ ih i => cond (Nat.beq b.toNat c) (.ofNat i) (ih (i + 1))) l

theorem fndB_eq (c : UInt8) (all : List UInt8) : ∀ (l : List UInt8) (i : Nat), all.drop i = l →
    (match (List.range' i l.length).find? fun i => (⟨⟨all⟩⟩ : ByteArray)[i]! == c with
    | some i => (i : Int)
    | none => -1) = fndB c.toNat l i
  | [], i, _ => rfl
  | b :: l, i, h => by
    have hb : (⟨⟨all⟩⟩ : ByteArray)[i]! = b := by
      have h1 : all[i]? = some b := by
        have := congrArg (fun l => l[0]?) h
        simpa using this
      have hi : i < all.length := by
        rw [List.getElem?_eq_some_iff] at h1
        exact h1.1
      have hs : i < (⟨⟨all⟩⟩ : ByteArray).size := hi
      rw [getElem!_pos _ i hs]
      rw [List.getElem?_eq_getElem hi] at h1
      exact Option.some.inj h1
    have hd : all.drop (i + 1) = l := by
      have := congrArg (List.drop 1) h
      rw [List.drop_drop] at this
      simpa using this
    rw [List.length_cons, List.range'_succ, List.find?_cons, hb]
    show _ = cond (Nat.beq b.toNat c.toNat) (.ofNat i) (fndB c.toNat l (i + 1))
    by_cases he : b = c
    · subst he
      simp
    · have h1 : (b == c) = false := by simpa using he
      have h2 : Nat.beq b.toNat c.toNat = false := by
        rw [Bool.eq_false_iff]
        intro e
        exact he (UInt8.toNat_inj.1 (Nat.eq_of_beq_eq_true e))
      rw [h1, h2]
      exact fndB_eq c all l (i + 1) hd

/-- One body, or else the other. -/
noncomputable def orX (X Y : ExtF) : ExtF := fun fn args σ => match X fn args σ with
  | some r => some r
  | none => Y fn args σ
theorem orX_ok {X Y : ExtF} (hX : FnOk P G X) (hY : FnOk P G Y) : FnOk P G (orX X Y) := by
  intro f fn args σ r μ N0 w hf hbody hb h hw
  unfold orX at hb
  cases hs : X fn args σ with
  | some q => rw [hs] at hb; cases hb; exact hX f fn args σ r μ N0 w hf hbody hs h hw
  | none => rw [hs] at hb; exact hY f fn args σ r μ N0 w hf hbody hb h hw

noncomputable def extIndexByte : ExtF := fun fn args σ =>
  cond (fn.origin == "" && (fn.name == "internal/bytealg.IndexByte" || fn.name == "internal/bytealg.IndexByteString")) (match args with
    | [b, .int .u8 c] => match bytesV σ b with
      | some l => some (.val (.int .i64 (fndB (Nat.mod c.toNat 256) l 0)), σ)
      | none => none
    | _ => none) none

theorem find_index {fn : Func} (hc : fn.name = "internal/bytealg.IndexByte" ∨ fn.name = "internal/bytealg.IndexByteString") (ho : fn.origin = "") :
    Extern.find fn = some Extern.BytealgIndexByte.indexByte ∧ Extern.findNext fn = none ∧ (fn.name == "runtime.NumGoroutine") = false := by
  rcases hc with hc | hc
  · have g1 : Extern.allGenericRows.lookup "internal/bytealg.IndexByte" = none := by kernel_rfl
    have g2 : Extern.allTypedRows.lookup "internal/bytealg.IndexByte" = none := by kernel_rfl
    have g3 : Extern.allRows.lookup "internal/bytealg.IndexByte" = some Extern.BytealgIndexByte.indexByte := by kernel_rfl
    refine ⟨?_, noNext (by rw [hc]; kernel_rfl) ho, by rw [hc]; decide⟩
    unfold Extern.find
    simp only [hc, g1, g2, g3]; rfl
  · have g1 : Extern.allGenericRows.lookup "internal/bytealg.IndexByteString" = none := by kernel_rfl
    have g2 : Extern.allTypedRows.lookup "internal/bytealg.IndexByteString" = none := by kernel_rfl
    have g3 : Extern.allRows.lookup "internal/bytealg.IndexByteString" = some Extern.BytealgIndexByte.indexByte := by kernel_rfl
    refine ⟨?_, noNext (by rw [hc]; kernel_rfl) ho, by rw [hc]; decide⟩
    unfold Extern.find
    simp only [hc, g1, g2, g3]; rfl

theorem extIndexByte_ok : FnOk P G extIndexByte := by
  intro f fn args σ r μ N0 w hf hbody hb h hw
  unfold extIndexByte at hb
  by_cases hc : fn.origin = "" ∧ (fn.name = "internal/bytealg.IndexByte" ∨ fn.name = "internal/bytealg.IndexByteString")
  · obtain ⟨ho, hn⟩ := hc
    obtain ⟨f1, f2, f3⟩ := find_index hn ho
    have : (fn.origin == "" && (fn.name == "internal/bytealg.IndexByte" || fn.name == "internal/bytealg.IndexByteString")) = true := by
      simp only [Bool.and_eq_true, Bool.or_eq_true, beq_iff_eq]; exact ⟨ho, hn⟩
    rw [this, cond_true] at hb
    split at hb
    · rename_i b c
      cases hl : bytesV σ b with
      | none => rw [hl] at hb; cases hb
      | some l =>
        rw [hl] at hb; cases hb
        have run := run_callFunc_extern (args := ⟨[b, Value.int .u8 c].map (conc μ)⟩) (w := w) hf f3 (by rw [hbody]; rfl) f2 f1
        refine OpOk.pure h ?_ trivial
        rw [run]
        have hi : (Extern.BytealgIndexByte.indexByte ⟨[b, Value.int .u8 c].map (conc μ)⟩).run P w = .ok (.int .i64 (fndB (Nat.mod c.toNat 256) l 0)) w := by
          show (do
            let b ← Extern.Bytes.bytesOf (conc μ b)
            let c ← Extern.Bytes.asByte (.int .u8 c)
            match (List.range b.size).find? fun i => b[i]! == c with
            | some i => pure (goInt i)
            | none => pure (goInt (-1)) : Sem Value).run P w = _
          have hby : (Extern.Bytes.asByte (.int .u8 c)).run P w = .ok c.toNat.toUInt8 w := rfl
          simp only [Sem.run_bind, bytesV_ok (P := P) h hl, hby, Result.andThen_ok]
          have key := fndB_eq c.toNat.toUInt8 l l 0 rfl
          have hm : (c.toNat.toUInt8).toNat = Nat.mod c.toNat 256 := by simp; rfl
          rw [hm] at key
          rw [← key]
          rw [show (⟨⟨l⟩⟩ : ByteArray).size = l.length from rfl, List.range_eq_range']
          cases (List.range' 0 l.length).find? fun i => (⟨⟨l⟩⟩ : ByteArray)[i]! == c.toNat.toUInt8 <;> rfl
        rw [hi]
        rfl
    · cases hb
  · have : (fn.origin == "" && (fn.name == "internal/bytealg.IndexByte" || fn.name == "internal/bytealg.IndexByteString")) = false := by
      rw [Bool.eq_false_iff]; intro e; apply hc; simpa using e
    rw [this] at hb; cases hb

noncomputable def extAll : ExtF := orX extStd extIndexByte
theorem extAll_ok : FnOk P G extAll := orX_ok extStd_ok extIndexByte_ok
end Vai

namespace Vai
open Go Go.RowKit

variable {P : Program} {G : Sym} {μ : Mu} {N0 : Nat} {σ : Mem} {w : World}

/-! Functions without a body that strings' builder calls, and the count of a byte. -/
noncomputable def extNoEscape : ExtF := fun fn args σ =>
  cond (fn.origin == "" && fn.name == "internal/abi.NoEscape") (match args with
    | [x] => some (.val x, σ)
    | _ => none) none
theorem extNoEscape_ok : FnOk P G extNoEscape := by
  intro f fn args σ r μ N0 w hf hbody hb h hw
  unfold extNoEscape at hb
  by_cases hc : fn.origin = "" ∧ fn.name = "internal/abi.NoEscape"
  · obtain ⟨ho, hn⟩ := hc
    rw [ho, hn] at hb
    simp only [beq_self_eq_true, Bool.and_self, cond_true] at hb
    have f1 : Extern.find fn = some Extern.AbiNoEscape.same := by
      have g1 : Extern.allGenericRows.lookup "internal/abi.NoEscape" = none := by kernel_rfl
      have g2 : Extern.allTypedRows.lookup "internal/abi.NoEscape" = none := by kernel_rfl
      have g3 : Extern.allRows.lookup "internal/abi.NoEscape" = some Extern.AbiNoEscape.same := by kernel_rfl
      unfold Extern.find
      simp only [hn, g1, g2, g3]; rfl
    have f2 : Extern.findNext fn = none := noNext (by rw [hn]; kernel_rfl) ho
    split at hb
    · rename_i x
      cases hb
      have run := run_callFunc_extern (args := ⟨[x].map (conc μ)⟩) (w := w) hf (by rw [hn]; decide) (by rw [hbody]; rfl) f2 f1
      refine OpOk.pure h ?_ hw.1
      rw [run]
      rfl
    · cases hb
  · have : (fn.origin == "" && fn.name == "internal/abi.NoEscape") = false := by
      rw [Bool.eq_false_iff]; intro e; apply hc; simpa using e
    rw [this] at hb; cases hb

/-- How often a byte stands in a text. -/
noncomputable def cntB (c : Nat) (l : List UInt8) : Nat → Nat :=
  List.rec (motive := fun _ => Nat → Nat) (fun n => n) (fun b _ ih n => cond (Nat.beq b.toNat c) (ih (n + 1)) (ih n)) l
theorem cntB_eq (c : UInt8) : ∀ (l : List UInt8) (n : Nat), l.foldl (fun (n : Int) x => if (x == c) = true then n + 1 else n) (n : Int) = (cntB c.toNat l n : Int)
  | [], n => rfl
  | b :: l, n => by
    show _ = ((cond (Nat.beq b.toNat c.toNat) (cntB c.toNat l (n + 1)) (cntB c.toNat l n) : Nat) : Int)
    rw [List.foldl_cons]
    by_cases he : b = c
    · have h1 : (b == c) = true := by simpa using he
      have h2 : Nat.beq b.toNat c.toNat = true := by rw [he]; exact Nat.beq_refl _
      rw [h1, h2, if_pos rfl, cond_true]
      exact cntB_eq c l (n + 1)
    · have h1 : (b == c) = false := by simpa using he
      have h2 : Nat.beq b.toNat c.toNat = false := by
        rw [Bool.eq_false_iff]
        intro e
        exact he (UInt8.toNat_inj.1 (Nat.eq_of_beq_eq_true e))
      rw [h1, h2, if_neg (by simp), cond_false]
      exact cntB_eq c l n
noncomputable def extCount : ExtF := fun fn args σ =>
  cond (fn.origin == "" && (fn.name == "internal/bytealg.Count" || fn.name == "internal/bytealg.CountString")) (match args with
    | [b, .int .u8 c] => match bytesV σ b with
      | some l => some (.val (.int .i64 (.ofNat (cntB (Nat.mod c.toNat 256) l 0))), σ)
      | none => none
    | _ => none) none
theorem find_count {fn : Func} (hc : fn.name = "internal/bytealg.Count" ∨ fn.name = "internal/bytealg.CountString") (ho : fn.origin = "") :
    Extern.find fn = some Extern.BytealgCount.count ∧ Extern.findNext fn = none ∧ (fn.name == "runtime.NumGoroutine") = false := by
  rcases hc with hc | hc
  · have g1 : Extern.allGenericRows.lookup "internal/bytealg.Count" = none := by kernel_rfl
    have g2 : Extern.allTypedRows.lookup "internal/bytealg.Count" = none := by kernel_rfl
    have g3 : Extern.allRows.lookup "internal/bytealg.Count" = some Extern.BytealgCount.count := by kernel_rfl
    refine ⟨?_, noNext (by rw [hc]; kernel_rfl) ho, by rw [hc]; decide⟩
    unfold Extern.find
    simp only [hc, g1, g2, g3]; rfl
  · have g1 : Extern.allGenericRows.lookup "internal/bytealg.CountString" = none := by kernel_rfl
    have g2 : Extern.allTypedRows.lookup "internal/bytealg.CountString" = none := by kernel_rfl
    have g3 : Extern.allRows.lookup "internal/bytealg.CountString" = some Extern.BytealgCount.count := by kernel_rfl
    refine ⟨?_, noNext (by rw [hc]; kernel_rfl) ho, by rw [hc]; decide⟩
    unfold Extern.find
    simp only [hc, g1, g2, g3]; rfl
theorem extCount_ok : FnOk P G extCount := by
  intro f fn args σ r μ N0 w hf hbody hb h hw
  unfold extCount at hb
  by_cases hc : fn.origin = "" ∧ (fn.name = "internal/bytealg.Count" ∨ fn.name = "internal/bytealg.CountString")
  · obtain ⟨ho, hn⟩ := hc
    obtain ⟨f1, f2, f3⟩ := find_count hn ho
    have : (fn.origin == "" && (fn.name == "internal/bytealg.Count" || fn.name == "internal/bytealg.CountString")) = true := by
      simp only [Bool.and_eq_true, Bool.or_eq_true, beq_iff_eq]; exact ⟨ho, hn⟩
    rw [this, cond_true] at hb
    split at hb
    · rename_i b c
      cases hl : bytesV σ b with
      | none => rw [hl] at hb; cases hb
      | some l =>
        rw [hl] at hb; cases hb
        have run := run_callFunc_extern (args := ⟨[b, Value.int .u8 c].map (conc μ)⟩) (w := w) hf f3 (by rw [hbody]; rfl) f2 f1
        refine OpOk.pure h ?_ trivial
        rw [run]
        have hi : (Extern.BytealgCount.count ⟨[b, Value.int .u8 c].map (conc μ)⟩).run P w = .ok (.int .i64 (.ofNat (cntB (Nat.mod c.toNat 256) l 0))) w := by
          show (do
            let b ← Extern.Bytes.bytesOf (conc μ b)
            let c ← Extern.Bytes.asByte (.int .u8 c)
            pure (goInt (b.foldl (fun n x => if x == c then n + 1 else n) (0 : Nat))) : Sem Value).run P w = _
          have hby : (Extern.Bytes.asByte (.int .u8 c)).run P w = .ok c.toNat.toUInt8 w := rfl
          simp only [Sem.run_bind, bytesV_ok (P := P) h hl, hby, Result.andThen_ok, Sem.run_pure]
          have hm : (c.toNat.toUInt8).toNat = Nat.mod c.toNat 256 := by simp; rfl
          rw [Lib.foldl_data]
          have key := cntB_eq c.toNat.toUInt8 l 0
          rw [hm] at key
          show Result.ok (goInt (List.foldl (fun (n : Int) x => if (x == c.toNat.toUInt8) = true then n + 1 else n) ((0 : Nat) : Int) l)) w = _
          rw [key]
          rfl
        rw [hi]
        rfl
    · cases hb
  · have : (fn.origin == "" && (fn.name == "internal/bytealg.Count" || fn.name == "internal/bytealg.CountString")) = false := by
      rw [Bool.eq_false_iff]; intro e; apply hc; simpa using e
    rw [this] at hb; cases hb

theorem digits_size : ∀ (n t : Nat) (acc : Array Value), (Extern.BytealgMakeNoZero.digits n t acc).size = acc.size + n
  | 0, _, acc => rfl
  | n + 1, t, acc => by
    rw [Extern.BytealgMakeNoZero.digits, digits_size n]
    simp; omega

/-- New bytes of which nothing is told. -/
noncomputable def extMakeNoZero (P : Program) : ExtF := fun fn args σ =>
  cond (fn.origin == "" && fn.name == "internal/bytealg.MakeNoZero") (match args, fn.resultTypes[0]? with
    | [.int .i64 (.ofNat n)], some t => match P.underlying t with
      | some (.slice elem) => cond (Nat.ble n 1048576) (match σ.newGrown elem 1 [] [] with
        | some (a, σ') => some (.val (.slice (some a) n HUGE), σ')
        | none => none) none
      | _ => none
    | _, _ => none) none
theorem extMakeNoZero_ok : FnOk P G (extMakeNoZero P) := by
  intro f fn args σ r μ N0 w hf hbody hb h hw
  unfold extMakeNoZero at hb
  by_cases hc : fn.origin = "" ∧ fn.name = "internal/bytealg.MakeNoZero"
  · obtain ⟨ho, hn⟩ := hc
    have h1 : (fn.origin == "" && fn.name == "internal/bytealg.MakeNoZero") = true := by rw [ho, hn]; simp
    rw [h1, cond_true] at hb
    have f1 : Extern.find fn = some (Extern.BytealgMakeNoZero.makeNoZero fn.params fn.resultTypes) := by
      have g1 : Extern.allGenericRows.lookup "internal/bytealg.MakeNoZero" = none := by kernel_rfl
      have g2 : Extern.allTypedRows.lookup "internal/bytealg.MakeNoZero" = some Extern.BytealgMakeNoZero.makeNoZero := by kernel_rfl
      unfold Extern.find
      simp only [hn, g1, g2]; rfl
    have f2 : Extern.findNext fn = none := noNext (by rw [hn]; kernel_rfl) ho
    split at hb
    · rename_i n t ht
      split at hb
      · rename_i elem hu
        rw [natBle, cond_decide] at hb
        by_cases hl : n ≤ 1048576
        · rw [if_pos hl] at hb
          cases hg : σ.newGrown elem 1 [] [] with
          | none => rw [hg] at hb; cases hb
          | some q =>
            obtain ⟨a, σ'⟩ := q
            rw [hg] at hb; cases hb
            have run := run_callFunc_extern (args := ⟨[Value.int .i64 (.ofNat n)].map (conc μ)⟩) (w := w) hf (by rw [hn]; decide) (by rw [hbody]; rfl) f2 f1
            let cap := Question.cut (.appendCap n 0 elem) (w.tape w.drawn (.appendCap n 0 elem))
            let w1 : World := { w with drawn := w.drawn + 1 }
            let q2 : Question := .extern "internal/bytealg.MakeNoZero.bytes" 0
            let bytes := Question.cut q2 (w1.tape w1.drawn q2)
            let w2 : World := { w1 with drawn := w1.drawn + 1 }
            have hw2 : w2 = w.drew.drew := rfl
            have hds : (Extern.BytealgMakeNoZero.digits cap bytes #[]).toList.length = cap := by
              rw [Array.length_toList, digits_size]; simp
            obtain ⟨μ', e1, e2, e3, e4, e5⟩ := h.drew.drew.newGrown (rest := (Extern.BytealgMakeNoZero.digits cap bytes #[]).toList) (ec := cap) hg trivial (fun j hj => absurd hj (by simp)) (Nat.zero_le _) (by rw [hds]; simp) (0, 0) (fun _ _ => by simp)
            have ed : (⟨([] : List Value).map (conc μ) ++ (Extern.BytealgMakeNoZero.digits cap bytes #[]).toList⟩ : Array Value) = Extern.BytealgMakeNoZero.digits cap bytes #[] := by simp
            rw [ed] at e1 e2
            refine ⟨μ', _, e1, ((Ext.drew μ σ w).trans (Ext.drew μ σ w.drew)).trans e2, ?_, e4⟩
            rw [run]
            have hi : (Extern.BytealgMakeNoZero.makeNoZero fn.params fn.resultTypes ⟨[Value.int .i64 (.ofNat n)].map (conc μ)⟩).run P w = .ok (.slice (some ⟨w.heap.size, 0, none⟩) n cap) (w.drew.drew.alloc (.cells (Extern.BytealgMakeNoZero.digits cap bytes #[]) elem (0, 0))) := by
              show (do
                let some t := fn.resultTypes[0]? | stuck "bytealg.MakeNoZero: no result type"
                let .slice elem ← underlying t | stuck "bytealg.MakeNoZero: slice type expected"
                if (Int.ofNat n) < 0 || (Int.ofNat n) > 2 ^ 48 then runtimePanic (.error "makeslice: len out of range")
                let cap ← choose (.appendCap (Int.ofNat n).toNat 0 elem)
                askRoom cap
                let bytes ← choose (.extern "internal/bytealg.MakeNoZero.bytes" 0)
                let a ← Go.newRow elem (Extern.BytealgMakeNoZero.digits cap bytes #[])
                pure (.slice (some a) (Int.ofNat n).toNat cap) : Sem Value).run P w = _
              rw [ht]
              have hif : (decide ((Int.ofNat n) < 0) || decide ((Int.ofNat n) > 2 ^ 48)) = false := by
                simp only [Int.ofNat_eq_natCast, Bool.or_eq_false_iff, decide_eq_false_iff_not]
                constructor <;> omega
              have ff1 : (Question.appendCap n 0 elem).forced = false := rfl
              have ff2 : (Question.extern "internal/bytealg.MakeNoZero.bytes" 0).forced = false := rfl
              simp only [Sem.run_bind, rUnd hu, Result.andThen_ok, hif, Bool.false_eq_true, if_false, Sem.run_pure, show (Int.ofNat n).toNat = n from rfl, run_choose, ff1, ff2, run_askRoom, Go.newRow, run_newObj]
              rfl
            rw [hi]
            simp only [Result.andThen_ok, conc_slice, cap_huge, e3, e5]
            rfl
        · rw [if_neg hl] at hb; cases hb
      · cases hb
    · cases hb
  · have : (fn.origin == "" && fn.name == "internal/bytealg.MakeNoZero") = false := by
      rw [Bool.eq_false_iff]; intro e; apply hc; simpa using e
    rw [this] at hb; cases hb

noncomputable def extFullF (P : Program) : ExtF := orX extAll (orX extCount (orX extNoEscape (extMakeNoZero P)))
theorem extFullF_ok : FnOk P G (extFullF P) := orX_ok extAll_ok (orX_ok extCount_ok (orX_ok extNoEscape_ok extMakeNoZero_ok))
noncomputable def extFull (P : Program) : Extn := .of (extFullF P)
theorem extFull_ok : ExtOk P G (extFull P) := .of extFullF_ok
end Vai

namespace Vai
open Go Go.RowKit

/-! Functions that put off calls to their end (no recover in them). -/
variable {P : Program} {X : Extn} {G : Sym} {μ : Mu} {N0 : Nat} {σ : Mem} {w : World}

structure ADef where
  fn : FuncId
  args : List Value
  cap : List Value
def concD (μ : Mu) (d : ADef) : Deferred := { target := .fn (.func d.fn) ⟨d.cap.map (conc μ)⟩, args := ⟨d.args.map (conc μ)⟩ }
def wfD (n : Nat) (d : ADef) : Prop := wfL n d.args ∧ wfL n d.cap
theorem map_agree {n : Nat} {μ μ' : Mu} (h : Agree n μ μ') {l : List Value} (hw : wfL n l) : l.map (conc μ') = l.map (conc μ) :=
  List.map_congr_left fun v hv => conc_agree h v ((wfL_iff n l).1 hw v hv)
theorem wfL_mono' {n m : Nat} (h : n ≤ m) {l : List Value} (hw : wfL n l) : wfL m l := wfL_mono h l hw
theorem concD_agree {n : Nat} {μ μ' : Mu} (h : Agree n μ μ') {D : List ADef} (hw : ∀ d ∈ D, wfD n d) : D.map (concD μ') = D.map (concD μ) :=
  List.map_congr_left fun d hd => by
    unfold concD
    rw [map_agree h (hw d hd).1, map_agree h (hw d hd).2]

def isDefer (o : Oper) : Bool := match o.op with
  | .defer _ => true
  | _ => false
noncomputable def hasDefer (c : Code) : Bool :=
  Code.rec (motive := fun _ => Bool) false (fun _ ops _ => ops.toList.any isDefer) (fun _ _ a b => cond a true b) (fun _ _ _ a b => cond a true b)
    (fun _ _ a => a) (fun _ a => a) (fun _ _ _ _ a b => cond a true b) (fun _ => false) (fun _ a => a) (fun _ => false) (fun _ => false) false (fun _ => false) c

noncomputable def aDefer (ρ : Operand → Value) (c : Call) : Option ADef := match c.callee with
  | .value f => cond (okB f && c.args.toList.all okB) (match ρ f with
    | .func (.func g) first captured => some ⟨g, first.toList ++ c.args.toList.map ρ, captured.toList⟩
    | _ => none) none
  | _ => none

abbrev SpR := Option (XO × List ADef × Env × Mem)
noncomputable def evalOpsD (P : Program) (X : Extn) (call : CallF) (ops : Array Oper) (l : List Oper) : List ADef → Env → Mem → SpR :=
  List.rec (motive := fun _ => List ADef → Env → Mem → SpR) (fun D e σ => some (.normal, D, e, σ))
    (fun o _ ih D e σ => match o.op with
      | .defer c => cond (wants ops e o) (match aDefer e.eval c with
          | some d => match e.put o.dst uv with
            | some e' => ih (d :: D) e' σ
            | none => none
          | none => none) none
      | _ => match evalStep P X call ops o e σ with
        | some (.normal, e', σ') => ih D e' σ'
        | some (x, e', σ') => some (x, D, e', σ')
        | none => none) l

noncomputable def evalSp (P : Program) (X : Extn) (Dr : DrawF) (call : CallF) (fuel : Nat) (c : Code) : List ADef → Env → Mem → SpR :=
  Code.rec (motive := fun _ => List ADef → Env → Mem → SpR)
    (fun D e σ => some (.normal, D, e, σ))
    (fun id ops draw D e σ => cond draw (match evalCode P X Dr call fuel (.region id ops draw) e σ with
      | some (x, e', σ') => some (x, D, e', σ')
      | none => none) (evalOpsD P X call ops ops.toList D e σ))
    (fun _ _ iha ihb D e σ => match iha D e σ with
      | some (.normal, D', e', σ') => ihb D' e' σ'
      | r => r)
    (fun c x y _ _ D e σ => match evalCode P X Dr call fuel (.cond c x y) e σ with
      | some (x, e', σ') => some (x, D, e', σ')
      | none => none)
    (fun id b _ D e σ => match evalCode P X Dr call fuel (.block id b) e σ with
      | some (x, e', σ') => some (x, D, e', σ')
      | none => none)
    (fun b _ D e σ => match evalCode P X Dr call fuel (.loop b) e σ with
      | some (x, e', σ') => some (x, D, e', σ')
      | none => none)
    (fun _ _ _ _ _ _ _ _ _ => none)
    (fun id D e σ => some (.exit id, D, e, σ))
    (fun _ ih D e σ => ih D e σ)
    (fun _ D e σ => some (.normal, D, e, σ))
    (fun _ _ _ _ => none)
    (fun D e σ => some (.ret, D, e, σ))
    (fun _ _ _ _ => none)
    c

/-- The calls that were put off, the last one first. -/
noncomputable def evalDefs (P : Program) (X : Extn) (Dr : DrawF) (call : CallF) (fuel : Nat) (D : List ADef) : Mem → Option Mem :=
  List.rec (motive := fun _ => Mem → Option Mem) (fun σ => some σ)
    (fun d _ ih σ => match P.funcs[d.fn]? with
      | none => none
      | some fn => match fn.body with
        | none => none
        | some c => cond ((!(fn.name == "runtime.NumGoroutine")) && (Nat.ble (d.args ++ d.cap).length fn.ntmps && Nat.ble fn.ntmps 1000000 && okCode c))
          (match evalCode P X Dr call fuel c ⟨T.ofList (d.args ++ d.cap) 0 .leaf, fn.ntmps⟩ σ with
          | some (.normal, e, σ') => match aResults P fn e σ' with
            | some _ => ih σ'
            | none => none
          | some (.ret, e, σ') => match aResults P fn e σ' with
            | some _ => ih σ'
            | none => none
          | _ => none) none) D

/-- As evalFn, but for functions that put off calls too. -/
noncomputable def evalFnE (P : Program) (X : Extn) (S : CallF) (Dr : DrawF) (fuel : Nat) : CallF :=
  Nat.rec (motive := fun _ => CallF) (fun _ _ _ => none)
    (fun n ih f args σ => match S f args σ with
    | some r => some r
    | none => match P.funcs[f]? with
      | none => none
      | some fn => match fn.body with
        | none => none
        | some c => cond (Nat.ble args.toList.length fn.ntmps && Nat.ble fn.ntmps 1000000 && okCode c)
          (cond (hasDefer c)
            (match evalSp P X Dr ih n c [] ⟨T.ofList args.toList 0 .leaf, fn.ntmps⟩ σ with
            | some (.normal, D, e, σ') => match evalDefs P X Dr ih n D σ' with
              | some σ'' => match aResults P fn e σ'' with
                | some v => some (.ret v, σ'')
                | none => none
              | none => none
            | some (.ret, D, e, σ') => match evalDefs P X Dr ih n D σ' with
              | some σ'' => match aResults P fn e σ'' with
                | some v => some (.ret v, σ'')
                | none => none
              | none => none
            | _ => none)
            (match evalCode P X Dr ih n c ⟨T.ofList args.toList 0 .leaf, fn.ntmps⟩ σ with
            | some (.normal, e, σ') => match aResults P fn e σ' with
              | some v => some (.ret v, σ')
              | none => none
            | some (.ret, e, σ') => match aResults P fn e σ' with
              | some v => some (.ret v, σ')
              | none => none
            | some (.panic, _, σ') => some (.panic, σ')
            | _ => none)) none) fuel

/-- Where a part with calls that are put off leads. -/
def GoesD (G : Sym) (μ : Mu) (N0 : Nat) (σ : Mem) (w : World) (σ' : Mem) (e' : Env) (D' : List ADef) (K : Act → World → Prop) : Prop :=
  ∀ μ' w' a', Rel G μ' N0 σ' w' → Ext μ σ w μ' σ' w' → (∀ d ∈ D', wfD σ'.nxt d) → EnvRel (D'.map (concD μ')) μ' σ'.nxt e' a' → K a' w'
theorem GoesD.trans {σ1 σ2 : Mem} {e2 : Env} {D2 : List ADef} {K : Act → World → Prop} {μ1 : Mu} {w1 : World} (hx : Ext μ σ w μ1 σ1 w1) (h : GoesD G μ N0 σ w σ2 e2 D2 K) : GoesD G μ1 N0 σ1 w1 σ2 e2 D2 K :=
  fun μ' w' a' r x hd he => h μ' w' a' r (hx.trans x) hd he

theorem goes_of {D : List ADef} {σ' : Mem} {e' : Env} {K : Act → World → Prop} (hw : ∀ d ∈ D, wfD σ.nxt d) (h : GoesD G μ N0 σ w σ' e' D K) : Goes (D.map (concD μ)) G μ N0 σ w σ' e' K := by
  intro μ' w' a' r x he
  refine h μ' w' a' r x (fun d hd => ⟨wfL_mono' x.nxt (hw d hd).1, wfL_mono' x.nxt (hw d hd).2⟩) ?_
  rw [concD_agree x.agree hw]
  exact he

theorem XPost.mono {Q Q' : Exit → Act → World → Prop} (h : ∀ e a w, Q e a w → Q' e a w) {x : XO} {a : Act} {w : World} (hx : XPost Q x a w) : XPost Q' x a w := by
  cases x with
  | panic => exact fun v => h _ _ _ (hx v)
  | _ => exact h _ _ _ hx

theorem aDefer_run {ρ ρ' : Operand → Value} {c : Call} {d : ADef} {ty : TypeId} (hρ : ∀ x, okB x = true → ρ' x = conc μ (ρ x) ∧ wf σ.nxt (ρ x)) (h : aDefer ρ c = some d) :
    (resolve ρ' c ty).run P w = .ok (concD μ d) w ∧ wfD σ.nxt d := by
  unfold aDefer at h
  cases hc : c.callee with
  | builtin b => rw [hc] at h; cases h
  | invoke r n => rw [hc] at h; cases h
  | value f =>
    rw [hc] at h; simp only at h
    cases hok : (okB f && c.args.toList.all okB) with
    | false => rw [hok] at h; cases h
    | true =>
      rw [hok, cond_true] at h
      simp only [Bool.and_eq_true] at hok
      obtain ⟨h1, h2⟩ := hok
      obtain ⟨f1, f2⟩ := hρ f h1
      obtain ⟨m1, m2⟩ := map_rho hρ h2
      cases hf : ρ f <;> rw [hf] at h <;> (try (cases h; done))
      rename_i fn first captured
      cases fn <;> (try (cases h; done))
      rename_i g
      cases h
      rw [hf] at f1 f2
      have hargs : c.args.map ρ' = ⟨c.args.toList.map ρ'⟩ := by apply Array.ext'; simp
      constructor
      · unfold resolve
        rw [hc]
        simp only
        rw [f1]
        simp only [conc, Deferred.ofValue, Sem.run_pure, concD]
        rw [hargs, m1]
        cases captured with
        | mk lc =>
          cases first with
          | mk lf =>
            simp only [concA, concL_map, List.map_append]
            congr 2
            apply Array.ext'
            simp
      · refine ⟨(wfL_iff _ _).2 fun v hv => ?_, (wfA_iff _ _).2 ((wfA_iff _ _).1 f2.2) |> fun hh => by cases captured; exact hh⟩
        rcases List.mem_append.1 hv with hv | hv
        · exact (wfA_iff _ _).1 f2.1 v (by simpa using hv)
        · exact (wfL_iff _ _).1 m2 v hv

theorem evalOpsD_cons (ops : Array Oper) (call : CallF) (o : Oper) (l : List Oper) (D : List ADef) (e : Env) (σ : Mem) : evalOpsD P X call ops (o :: l) D e σ = (match o.op with
      | .defer c => cond (wants ops e o) (match aDefer e.eval c with
          | some d => match e.put o.dst uv with
            | some e' => evalOpsD P X call ops l (d :: D) e' σ
            | none => none
          | none => none) none
      | _ => match evalStep P X call ops o e σ with
        | some (.normal, e', σ') => evalOpsD P X call ops l D e' σ'
        | some (x, e', σ') => some (x, D, e', σ')
        | none => none) := rfl

theorem evalOpsD_ok (hX : ExtOk P G X) (hG : True) {call : CallF} (hc : CallOk P G call) {ops : Array Oper} {Q : Exit → Act → World → Prop} : ∀ (l : List Oper) (i : Nat), (∀ k, l[k]? = ops[i + k]?) →
    ∀ {μ : Mu} {σ : Mem} {w : World} {D D' : List ADef} {e e' : Env} {σ' : Mem} {x : XO} {a : Act}, Rel G μ N0 σ w → evalOpsD P X call ops l D e σ = some (x, D', e', σ') → okOps l = true → (∀ d ∈ D, wfD σ.nxt d) → EnvRel (D.map (concD μ)) μ σ.nxt e a →
    GoesD G μ N0 σ w σ' e' D' (XPost Q x) → wpOps P ops Q (List.range' i l.length) a w
  | [], i, _, μ, σ, w, D, D', e, e', σ', x, a, h, hb, _, hd, he, hk => by
    have : some (XO.normal, D, e, σ) = some (x, D', e', σ') := hb
    cases this
    exact hk μ w a h (Ext.refl _ _ _) hd he
  | o :: l, i, hl, μ, σ, w, D, D', e, e', σ', x, a, h, hb, hok, hd, he, hk => by
    rw [evalOpsD_cons] at hb
    rw [okOps_cons] at hok
    have hok1 : okOp o.op = true := by cases h1 : okOp o.op <;> simp [h1] at hok ⊢
    have hok2 : okOps l = true := by rw [hok1] at hok; exact hok
    have h0 : ops[i]? = some o := by have := hl 0; simpa using this.symm
    have hl' : ∀ k, l[k]? = ops[i + 1 + k]? := fun k => by have := hl (k + 1); rw [List.getElem?_cons_succ] at this; rw [this]; congr 1; omega
    rw [List.length_cons, List.range'_succ]
    unfold wpOps
    simp only [h0]
    by_cases hdf : ∃ c, o.op = .defer c
    · obtain ⟨c, hc'⟩ := hdf
      rw [hc'] at hb
      simp only at hb
      cases hw : wants ops e o with
      | false => rw [hw] at hb; cases hb
      | true =>
        rw [hw, cond_true] at hb
        cases had : aDefer e.eval c with
        | none => rw [had] at hb; cases hb
        | some d =>
          rw [had] at hb; simp only at hb
          cases hp : e.put o.dst uv with
          | none => rw [hp] at hb; cases hb
          | some e1 =>
            rw [hp] at hb; simp only at hb
            obtain ⟨r1, r2⟩ := aDefer_run (P := P) (w := w) (ty := o.type) (fun y hy => he.eval hG h.glob h.gnxt y hy) had
            have hwn : Region.wanted o (yielded ops a.tmps) = true := by rw [wants_eq he]; exact hw
            rw [if_pos hwn]
            left
            have hex : (execOp a.eval o).run P w = .ok (.defer (concD μ d)) w := by
              unfold execOp
              rw [hc']
              simp only [Sem.run_bind, r1, Result.andThen_ok, Sem.run_pure]
            unfold Oper.wp
            rw [hex, Oper.upon_defer]
            have he1 := he.put (v := uv) hp trivial
            have he2 : EnvRel ((d :: D).map (concD μ)) μ σ.nxt e1 (({ a with defers := concD μ d :: a.defers } : Act).put o.dst undef) := by
              have e0 : (({ a with defers := concD μ d :: a.defers } : Act).put o.dst undef).tmps = (a.put o.dst (conc μ uv)).tmps := by cases o.dst <;> rfl
              have e3 : (({ a with defers := concD μ d :: a.defers } : Act).put o.dst undef).defers = concD μ d :: a.defers := by cases o.dst <;> rfl
              refine ⟨by rw [e3, he.defers]; rfl, by rw [e0]; exact he1.size, he1.lim, fun t => by rw [e0]; exact he1.val t, he1.wf⟩
            exact evalOpsD_ok hX hG hc l (i + 1) hl' h hb hok2 (fun d' hd' => by
              rcases List.mem_cons.1 hd' with rfl | hd'
              · exact r2
              · exact hd d' hd') he2 hk
    · have hb' : (match evalStep P X call ops o e σ with
        | some (.normal, e', σ') => evalOpsD P X call ops l D e' σ'
        | some (x, e', σ') => some (x, D, e', σ')
        | none => none) = some (x, D', e', σ') := by
        rw [← hb]
        cases hop : o.op <;> first | rfl | exact absurd ⟨_, hop⟩ hdf
      cases hs : evalStep P X call ops o e σ with
      | none => rw [hs] at hb'; cases hb'
      | some q =>
        obtain ⟨x1, e1, σ1⟩ := q
        rw [hs] at hb'
        have step := evalStep_ok hX hG hc h hs hok1 he (wpOps P ops Q (List.range' (i + 1) l.length)) Q (by
          intro μ1 w1 a1 r1 k1 he1
          have hd1 : ∀ d ∈ D, wfD σ1.nxt d := fun d hd' => ⟨wfL_mono' k1.nxt (hd d hd').1, wfL_mono' k1.nxt (hd d hd').2⟩
          rw [← concD_agree k1.agree hd] at he1
          cases x1 with
          | normal =>
            simp only at hb' ⊢
            exact evalOpsD_ok hX hG hc l (i + 1) hl' r1 hb' hok2 hd1 he1 (hk.trans k1)
          | panic =>
            simp only at hb' ⊢
            cases hb'
            exact hk μ1 w1 a1 r1 k1 hd1 he1
          | exit id => trivial
          | ret => trivial)
        split
        · rename_i hw; rw [if_pos hw] at step; exact .inl step
        · rename_i hw; rw [if_neg hw] at step; exact step

theorem sp_code (hX : ExtOk P G X) (hG : True) {Dr : DrawF} (hD : DrawOk P G X Dr) {call : CallF} (hc : CallOk P G call) (fuel : Nat) {c : Code} (hok : okCode c = true) {D D' : List ADef} {e e' : Env} {σ' : Mem} {x : XO} {a : Act} {Q : Exit → Act → World → Prop}
    (h : Rel G μ N0 σ w) (hb : (match evalCode P X Dr call fuel c e σ with
      | some (x, e', σ') => some (x, D, e', σ')
      | none => none) = some (x, D', e', σ')) (hd : ∀ d ∈ D, wfD σ.nxt d) (he : EnvRel (D.map (concD μ)) μ σ.nxt e a) (hk : GoesD G μ N0 σ w σ' e' D' (XPost Q x)) : c.wp P Q a w := by
  cases h1 : evalCode P X Dr call fuel c e σ with
  | none => rw [h1] at hb; cases hb
  | some q =>
    obtain ⟨x1, e1, σ1⟩ := q
    rw [h1] at hb; cases hb
    exact evalCode_ok hX hG hD hc fuel c hok h h1 he (goes_of hd hk)

theorem evalSp_ok (hX : ExtOk P G X) (hG : True) {Dr : DrawF} (hD : DrawOk P G X Dr) {call : CallF} (hc : CallOk P G call) (fuel : Nat) : ∀ (c : Code), okCode c = true →
    ∀ {μ : Mu} {σ : Mem} {w : World} {D D' : List ADef} {e e' : Env} {σ' : Mem} {x : XO} {a : Act} {Q : Exit → Act → World → Prop}, Rel G μ N0 σ w → evalSp P X Dr call fuel c D e σ = some (x, D', e', σ') → (∀ d ∈ D, wfD σ.nxt d) → EnvRel (D.map (concD μ)) μ σ.nxt e a →
    GoesD G μ N0 σ w σ' e' D' (XPost Q x) → c.wp P Q a w := by
  intro c
  induction c with
  | skip =>
    intro _ μ σ w D D' e e' σ' x a Q h hb hd he hk
    have : some (XO.normal, D, e, σ) = some (x, D', e', σ') := hb
    cases this
    exact wp_skip (hk μ w a h (Ext.refl _ _ _) hd he)
  | region id ops draw =>
    intro hok μ σ w D D' e e' σ' x a Q h hb hd he hk
    cases draw with
    | true => exact sp_code hX hG hD hc fuel hok h hb hd he hk
    | false =>
      have hb' : evalOpsD P X call ops ops.toList D e σ = some (x, D', e', σ') := hb
      refine wp_region ?_
      have := evalOpsD_ok hX hG hc ops.toList 0 (fun k => by simp) h hb' hok hd he hk
      rw [Array.length_toList, ← List.range_eq_range'] at this
      exact this
  | seq x y ihx ihy =>
    intro hok μ σ w D D' e e' σ' xo a Q h hb hd he hk
    have hok' : cond (okCode x) (okCode y) false = true := hok
    have o1 : okCode x = true := by cases h1 : okCode x <;> simp [h1] at hok' ⊢
    have o2 : okCode y = true := by rw [o1] at hok'; exact hok'
    have hb' : (match evalSp P X Dr call fuel x D e σ with
      | some (.normal, D', e', σ') => evalSp P X Dr call fuel y D' e' σ'
      | r => r) = some (xo, D', e', σ') := hb
    cases h1 : evalSp P X Dr call fuel x D e σ with
    | none => rw [h1] at hb'; cases hb'
    | some q =>
      obtain ⟨x1, D1, e1, σ1⟩ := q
      rw [h1] at hb'
      refine wp_seq (ihx o1 h h1 hd he ?_)
      intro μ1 w1 a1 r1 k1 hd1 he1
      cases x1 with
      | normal =>
        simp only at hb'
        exact ihy o2 r1 hb' hd1 he1 (hk.trans k1)
      | exit id => simp only at hb'; cases hb'; exact hk μ1 w1 a1 r1 k1 hd1 he1
      | ret => simp only at hb'; cases hb'; exact hk μ1 w1 a1 r1 k1 hd1 he1
      | panic => simp only at hb'; cases hb'; exact hk μ1 w1 a1 r1 k1 hd1 he1
  | cond c x y ihx ihy =>
    intro hok μ σ w D D' e e' σ' xo a Q h hb hd he hk
    exact sp_code hX hG hD hc fuel hok h hb hd he hk
  | block id body ih =>
    intro hok μ σ w D D' e e' σ' xo a Q h hb hd he hk
    exact sp_code hX hG hD hc fuel hok h hb hd he hk
  | loop body ih =>
    intro hok μ σ w D D' e e' σ' xo a Q h hb hd he hk
    exact sp_code hX hG hD hc fuel hok h hb hd he hk
  | rangeFunc f ps x y ihx ihy =>
    intro hok μ σ w D D' e e' σ' xo a Q h hb hd he hk
    have : (none : SpR) = some (xo, D', e', σ') := hb
    cases this
  | exit id =>
    intro hok μ σ w D D' e e' σ' xo a Q h hb hd he hk
    have : some (XO.exit id, D, e, σ) = some (xo, D', e', σ') := hb
    cases this
    exact wp_exit (hk μ w a h (Ext.refl _ _ _) hd he)
  | scope body ih =>
    intro hok μ σ w D D' e e' σ' xo a Q h hb hd he hk
    refine wp_scope_straight (ih hok h hb hd he ?_)
    intro μ1 w1 a1 r1 k1 hd1 he1
    have := hk μ1 w1 a1 r1 k1 hd1 he1
    cases xo <;> exact this
  | label l =>
    intro hok μ σ w D D' e e' σ' xo a Q h hb hd he hk
    have : some (XO.normal, D, e, σ) = some (xo, D', e', σ') := hb
    cases this
    exact wp_label (hk μ w a h (Ext.refl _ _ _) hd he)
  | goto l =>
    intro hok μ σ w D D' e e' σ' xo a Q h hb hd he hk
    have : (none : SpR) = some (xo, D', e', σ') := hb
    cases this
  | ret =>
    intro hok μ σ w D D' e e' σ' xo a Q h hb hd he hk
    have : some (XO.ret, D, e, σ) = some (xo, D', e', σ') := hb
    cases this
    exact wp_ret (hk μ w a h (Ext.refl _ _ _) hd he)
  | refuse s =>
    intro hok μ σ w D D' e e' σ' xo a Q h hb hd he hk
    have : (none : SpR) = some (xo, D', e', σ') := hb
    cases this

theorem entry_env {args : Array Value} {ntmps : Nat} (c1 : args.toList.length ≤ ntmps) (c2 : ntmps ≤ 1000000) (hw : wfA σ.nxt args) :
    EnvRel [] μ σ.nxt ⟨T.ofList args.toList 0 .leaf, ntmps⟩ { tmps := concA μ args ++ Array.replicate (ntmps - (concA μ args).size) undef, defers := [] } := by
  have hcs : (concA μ args).size = args.toList.length := by rw [concA_map]; simp
  have tmp : ∀ t, (⟨T.ofList args.toList 0 .leaf, ntmps⟩ : Env).tmp t = (args.toList[t]?).getD uv := by
    intro t
    rw [Env.tmp_eq]
    simp only
    rw [T.get_ofList _ _ _ _ (by omega)]
    by_cases ht : t < args.toList.length
    · rw [if_pos (by omega)]; simp only [Nat.sub_zero, List.getElem?_eq_getElem ht]; rfl
    · rw [if_neg (by omega), T.get_leaf, List.getElem?_eq_none (by omega)]; rfl
  have hsz : args.size = args.toList.length := rfl
  refine ⟨rfl, ?_, c2, ?_, ?_⟩
  · simp only [Array.size_append, Array.size_replicate, hcs]; omega
  · intro t
    rw [tmp]
    simp only [Array.getD_eq_getD_getElem?]
    rw [Array.getElem?_append]
    by_cases ht : t < args.toList.length
    · rw [if_pos (by omega), concA_map, Array.getElem?_map, List.getElem?_eq_getElem ht]
      rw [show args[t]? = some args.toList[t] from by rw [Array.getElem?_eq_getElem (by omega)]; rfl]
      rfl
    · rw [if_neg (by omega), List.getElem?_eq_none (by omega), Array.getElem?_replicate]
      split <;> rfl
  · intro t
    rw [tmp]
    by_cases ht : t < args.toList.length
    · rw [List.getElem?_eq_getElem ht]
      exact (wfA_iff _ _).1 hw _ (by simp)
    · rw [List.getElem?_eq_none (by omega)]; trivial

theorem evalDefs_ok (hX : ExtOk P G X) (hG : True) {Dr : DrawF} (hD : DrawOk P G X Dr) {call : CallF} (hc : CallOk P G call) (fuel : Nat) {fn0 : Func} {tmps : Array Value} {R : Ending → World → Prop} : ∀ (D : List ADef) {μ : Mu} {σ σ2 : Mem} {w : World}, Rel G μ N0 σ w → (∀ d ∈ D, wfD σ.nxt d) →
    evalDefs P X Dr call fuel D σ = some σ2 →
    (∀ μ2 w2, Rel G μ2 N0 σ2 w2 → Ext μ σ w μ2 σ2 w2 → ∃ v, (results fn0 tmps).run P w2 = .ok v w2 ∧ R (.returned v) w2) → Leaves P fn0 tmps R (D.map (concD μ)) .returning w
  | [], μ, σ, σ2, w, h, hd, hb, hR => by
    have : some σ = some σ2 := hb
    cases this
    exact hR μ w h (Ext.refl _ _ _)
  | d :: D, μ, σ, σ2, w, h, hd, hb, hR => by
    have hb' : (match P.funcs[d.fn]? with
      | none => none
      | some fn => match fn.body with
        | none => none
        | some c => cond ((!(fn.name == "runtime.NumGoroutine")) && (Nat.ble (d.args ++ d.cap).length fn.ntmps && Nat.ble fn.ntmps 1000000 && okCode c))
          (match evalCode P X Dr call fuel c ⟨T.ofList (d.args ++ d.cap) 0 .leaf, fn.ntmps⟩ σ with
          | some (.normal, e, σ') => match aResults P fn e σ' with
            | some _ => evalDefs P X Dr call fuel D σ'
            | none => none
          | some (.ret, e, σ') => match aResults P fn e σ' with
            | some _ => evalDefs P X Dr call fuel D σ'
            | none => none
          | _ => none) none) = some σ2 := hb
    cases hf : P.funcs[d.fn]? with
    | none => rw [hf] at hb'; cases hb'
    | some fn =>
      rw [hf] at hb'; simp only at hb'
      cases hbd : fn.body with
      | none => rw [hbd] at hb'; cases hb'
      | some c =>
        rw [hbd] at hb'; simp only at hb'
        cases hcc : ((!(fn.name == "runtime.NumGoroutine")) && (Nat.ble (d.args ++ d.cap).length fn.ntmps && Nat.ble fn.ntmps 1000000 && okCode c)) with
        | false => rw [hcc] at hb'; cases hb'
        | true =>
          rw [hcc, cond_true] at hb'
          simp only [Bool.and_eq_true, Bool.not_eq_true', natBle, decide_eq_true_eq] at hcc
          obtain ⟨hn, ⟨c1, c2⟩, c3⟩ := hcc
          have hwd := hd d (List.mem_cons_self ..)
          have hwa : wfA σ.nxt ⟨d.args ++ d.cap⟩ := (wfL_iff _ _).2 fun v hv => by
            rcases List.mem_append.1 hv with hv | hv
            · exact (wfL_iff _ _).1 hwd.1 v hv
            · exact (wfL_iff _ _).1 hwd.2 v hv
          have hen := entry_env (μ := μ) (σ := σ) (args := ⟨d.args ++ d.cap⟩) c1 c2 hwa
          have happ : (⟨d.args.map (conc μ)⟩ ++ ⟨d.cap.map (conc μ)⟩ : Array Value) = concA μ ⟨d.args ++ d.cap⟩ := by
            rw [concA_map]; apply Array.ext'; simp
          have hinv : (invoke (concD μ d).target (concD μ d).args).run P w = .ok (.enter d.fn (concA μ ⟨d.args ++ d.cap⟩)) w := by
            show (callFunc d.fn (⟨d.args.map (conc μ)⟩ ++ ⟨d.cap.map (conc μ)⟩)).run P w = _
            rw [happ]
            simp only [callFunc, Sem.run_bind, run_program, Result.andThen_ok, hf, hn, Bool.false_eq_true, if_false, hbd, Option.isNone_some, Sem.run_pure]
          cases hev : evalCode P X Dr call fuel c ⟨T.ofList (d.args ++ d.cap) 0 .leaf, fn.ntmps⟩ σ with
          | none => rw [hev] at hb'; cases hb'
          | some q =>
            obtain ⟨x, e1, σ1⟩ := q
            rw [hev] at hb'
            have hwp := evalCode_ok hX hG hD hc fuel c c3 h hev hen (Q := bodyPost P fn fun en w' => ∃ v, en = .returned v ∧ Leaves P fn0 tmps R (D.map (concD μ)) .returning w') (by
              intro μ1 w1 a1 r1 k1 he1
              have hd1 : ∀ d' ∈ D, wfD σ1.nxt d' := fun d' hd' => ⟨wfL_mono' k1.nxt (hd d' (List.mem_cons_of_mem _ hd')).1, wfL_mono' k1.nxt (hd d' (List.mem_cons_of_mem _ hd')).2⟩
              have fin : ∀ {v : Value}, aResults P fn e1 σ1 = some v → evalDefs P X Dr call fuel D σ1 = some σ2 → a1.defers = [] ∧ ∃ v, (results fn a1.tmps).run P w1 = .ok v w1 ∧ ∃ v', Ending.returned v = Ending.returned v' ∧ Leaves P fn0 tmps R (D.map (concD μ)) .returning w1 := by
                intro v hr hb2
                obtain ⟨q1, q2⟩ := aResults_run r1 he1 hr
                refine ⟨he1.defers, _, q1, _, rfl, ?_⟩
                rw [← concD_agree k1.agree (fun d' hd' => hd d' (List.mem_cons_of_mem _ hd'))]
                exact evalDefs_ok hX hG hD hc fuel D r1 hd1 hb2 fun μ2 w2 r2 k2 => hR μ2 w2 r2 (k1.trans k2)
              cases x with
              | normal =>
                simp only at hb'
                cases hr : aResults P fn e1 σ1 with
                | none => rw [hr] at hb'; cases hb'
                | some v => rw [hr] at hb'; exact fin hr hb'
              | ret =>
                simp only at hb'
                cases hr : aResults P fn e1 σ1 with
                | none => rw [hr] at hb'; cases hb'
                | some v => rw [hr] at hb'; exact fin hr hb'
              | panic => cases hb'
              | exit id => cases hb')
            refine ⟨(fun e => by cases e), .func d.fn, _, d.fn, _, rfl, hinv, ?_⟩
            refine CallsD.mono (callsD_of_wp hf hbd hwp) ?_
            rintro en u' w' ⟨rfl, v, rfl, hl⟩
            exact hl

theorem evalFnE_succ (P : Program) (X : Extn) (S : CallF) (Dr : DrawF) (n : Nat) (f : FuncId) (args : Array Value) (σ : Mem) : evalFnE P X S Dr (n + 1) f args σ = (match S f args σ with
    | some r => some r
    | none => match P.funcs[f]? with
      | none => none
      | some fn => match fn.body with
        | none => none
        | some c => cond (Nat.ble args.toList.length fn.ntmps && Nat.ble fn.ntmps 1000000 && okCode c)
          (cond (hasDefer c)
            (match evalSp P X Dr (evalFnE P X S Dr n) n c [] ⟨T.ofList args.toList 0 .leaf, fn.ntmps⟩ σ with
            | some (.normal, D, e, σ') => match evalDefs P X Dr (evalFnE P X S Dr n) n D σ' with
              | some σ'' => match aResults P fn e σ'' with
                | some v => some (.ret v, σ'')
                | none => none
              | none => none
            | some (.ret, D, e, σ') => match evalDefs P X Dr (evalFnE P X S Dr n) n D σ' with
              | some σ'' => match aResults P fn e σ'' with
                | some v => some (.ret v, σ'')
                | none => none
              | none => none
            | _ => none)
            (match evalCode P X Dr (evalFnE P X S Dr n) n c ⟨T.ofList args.toList 0 .leaf, fn.ntmps⟩ σ with
            | some (.normal, e, σ') => match aResults P fn e σ' with
              | some v => some (.ret v, σ')
              | none => none
            | some (.ret, e, σ') => match aResults P fn e σ' with
              | some v => some (.ret v, σ')
              | none => none
            | some (.panic, _, σ') => some (.panic, σ')
            | _ => none)) none) := rfl

/-- What the evaluation of a function says, its call does; also where calls are put off. -/
theorem evalFnE_ok (hX : ExtOk P G X) (hG : True) {S : CallF} (hS : CallOk P G S) {Dr : DrawF} (hD : DrawOk P G X Dr) : ∀ (n : Nat), CallOk P G (evalFnE P X S Dr n)
  | 0 => fun f args σ r σ' hb => by have : (none : Option (FR × Mem)) = some (r, σ') := hb; cases this
  | n + 1 => fun f args σ r σ' hb μ N0 w h hw => by
    have ih := evalFnE_ok hX hG hS hD n
    rw [evalFnE_succ] at hb
    cases hs : S f args σ with
    | some q => rw [hs] at hb; cases hb; exact hS f args σ r σ' hs μ N0 w h hw
    | none =>
    rw [hs] at hb; simp only at hb
    cases hf : P.funcs[f]? with
    | none => rw [hf] at hb; cases hb
    | some fn =>
      rw [hf] at hb; simp only at hb
      cases hbd : fn.body with
      | none => rw [hbd] at hb; cases hb
      | some c =>
        rw [hbd] at hb; simp only at hb
        cases hc : (Nat.ble args.toList.length fn.ntmps && Nat.ble fn.ntmps 1000000 && okCode c) with
        | false => rw [hc] at hb; cases hb
        | true =>
          rw [hc, cond_true] at hb
          simp only [Bool.and_eq_true, natBle, decide_eq_true_eq] at hc
          obtain ⟨⟨c1, c2⟩, c3⟩ := hc
          have he := entry_env (μ := μ) (σ := σ) (args := args) c1 c2 hw
          cases hdf : hasDefer c with
          | false =>
            rw [hdf, cond_false] at hb
            cases hev : evalCode P X Dr (evalFnE P X S Dr n) n c ⟨T.ofList args.toList 0 .leaf, fn.ntmps⟩ σ with
            | none => rw [hev] at hb; cases hb
            | some q =>
              obtain ⟨x, e', σ2⟩ := q
              rw [hev] at hb
              refine calls_of_wp hf hbd (evalCode_ok hX hG hD ih n c c3 h hev he ?_)
              intro μ1 w1 a1 r1 k1 he1
              cases x with
              | normal =>
                simp only at hb
                cases hr : aResults P fn e' σ2 with
                | none => rw [hr] at hb; cases hb
                | some v =>
                  rw [hr] at hb; cases hb
                  obtain ⟨q1, q2⟩ := aResults_run r1 he1 hr
                  exact ⟨he1.defers, _, q1, μ1, r1, k1, rfl, q2⟩
              | ret =>
                simp only at hb
                cases hr : aResults P fn e' σ2 with
                | none => rw [hr] at hb; cases hb
                | some v =>
                  rw [hr] at hb; cases hb
                  obtain ⟨q1, q2⟩ := aResults_run r1 he1 hr
                  exact ⟨he1.defers, _, q1, μ1, r1, k1, rfl, q2⟩
              | panic =>
                simp only at hb
                cases hb
                intro v
                exact ⟨he1.defers, μ1, r1, k1, v, rfl⟩
              | exit id => cases hb
          | true =>
            rw [hdf, cond_true] at hb
            cases hev : evalSp P X Dr (evalFnE P X S Dr n) n c [] ⟨T.ofList args.toList 0 .leaf, fn.ntmps⟩ σ with
            | none => rw [hev] at hb; cases hb
            | some q =>
              obtain ⟨x, D', e', σ1⟩ := q
              rw [hev] at hb
              refine calls_of_wp_defers hf hbd (evalSp_ok hX hG hD ih n c c3 h hev (fun d hd => absurd hd (by simp)) he ?_)
              intro μ1 w1 a1 r1 k1 hd1 he1
              have fin : ∀ {σ2 : Mem} {v : Value}, evalDefs P X Dr (evalFnE P X S Dr n) n D' σ1 = some σ2 → aResults P fn e' σ2 = some v → r = .ret v → σ' = σ2 → Leaves P fn a1.tmps (fun en w' => ∃ μ', Rel G μ' N0 σ' w' ∧ Ext μ σ w μ' σ' w' ∧ match r with
                  | .ret v => en = .returned (conc μ' v) ∧ wf σ'.nxt v
                  | .panic => ∃ v, en = .panicked [{ v, recovered := false }]) a1.defers .returning w1 := by
                intro σ2 v hb2 hr er es
                subst er; subst es
                rw [he1.defers]
                refine evalDefs_ok hX hG hD ih n D' r1 hd1 hb2 fun μ2 w2 r2 k2 => ?_
                obtain ⟨q1, q2⟩ := aResults_run r2 (he1.mono k2.agree k2.nxt) hr
                exact ⟨_, q1, μ2, r2, k1.trans k2, rfl, q2⟩
              cases x with
              | normal =>
                simp only at hb
                cases hb2 : evalDefs P X Dr (evalFnE P X S Dr n) n D' σ1 with
                | none => rw [hb2] at hb; cases hb
                | some σ2 =>
                  rw [hb2] at hb; simp only at hb
                  cases hr : aResults P fn e' σ2 with
                  | none => rw [hr] at hb; cases hb
                  | some v => rw [hr] at hb; cases hb; exact fin hb2 hr rfl rfl
              | ret =>
                simp only at hb
                cases hb2 : evalDefs P X Dr (evalFnE P X S Dr n) n D' σ1 with
                | none => rw [hb2] at hb; cases hb
                | some σ2 =>
                  rw [hb2] at hb; simp only at hb
                  cases hr : aResults P fn e' σ2 with
                  | none => rw [hr] at hb; cases hb
                  | some v => rw [hr] at hb; cases hb; exact fin hb2 hr rfl rfl
              | panic => cases hb
              | exit id => cases hb
end Vai

namespace Vai
open Go Go.RowKit

variable {P : Program} {G : Sym} {μ : Mu} {N0 : Nat} {σ : Mem} {w : World}

/-! What package errors asks of package reflectlite. -/
noncomputable def extTypeOf (P : Program) : ExtF := fun fn args σ =>
  cond (fn.origin == "" && fn.name == "internal/reflectlite.TypeOf") (match args with
    | [.nilIface] => some (.val .nilIface, σ)
    | [.iface t _] => match P.cutTypes.find? (·.1 == "internal/reflectlite.rtype") with
      | some (_, rt) => cond (Nat.blt P.globals.size 4096) (some (.val (.iface rt (.agg #[.pointer (some ⟨P.globals.size, t, none⟩)])), σ)) none
      | none => none
    | _ => none) none

theorem conc_handle (h : Rel G μ N0 σ w) {t : TypeId} (hg : P.globals.size < 4096) : conc μ (.pointer (some ⟨P.globals.size, t, none⟩)) = typeHandle P t ∧ P.globals.size < σ.nxt := by
  obtain ⟨h1, h2⟩ := h.glob P.globals.size (by omega)
  rw [gpl, if_pos hg] at h1
  have := h.gnxt
  refine ⟨?_, by omega⟩
  rw [conc_ptr, Mu.addr_none _ _ rfl]
  simp [typeHandle, h1, h2]

theorem extTypeOf_ok : FnOk P G (extTypeOf P) := by
  intro f fn args σ r μ N0 w hf hbody hb h hw
  unfold extTypeOf at hb
  by_cases hc : fn.origin = "" ∧ fn.name = "internal/reflectlite.TypeOf"
  · obtain ⟨ho, hn⟩ := hc
    have h1 : (fn.origin == "" && fn.name == "internal/reflectlite.TypeOf") = true := by rw [ho, hn]; simp
    rw [h1, cond_true] at hb
    have f1 : Extern.find fn = some Extern.ReflectliteType.typeOf := by
      have g1 : Extern.allGenericRows.lookup "internal/reflectlite.TypeOf" = none := by kernel_rfl
      have g2 : Extern.allTypedRows.lookup "internal/reflectlite.TypeOf" = none := by kernel_rfl
      have g3 : Extern.allRows.lookup "internal/reflectlite.TypeOf" = some Extern.ReflectliteType.typeOf := by kernel_rfl
      unfold Extern.find
      simp only [hn, g1, g2, g3]; rfl
    have f2 : Extern.findNext fn = none := noNext (by rw [hn]; kernel_rfl) ho
    have run := fun l => run_callFunc_extern (args := l) (w := w) hf (by rw [hn]; decide) (by rw [hbody]; rfl) f2 f1
    split at hb
    · cases hb
      refine OpOk.pure h ?_ trivial
      rw [run]
      rfl
    · rename_i t v
      cases hct : P.cutTypes.find? (·.1 == "internal/reflectlite.rtype") with
      | none => rw [hct] at hb; cases hb
      | some p =>
        obtain ⟨nm, rt⟩ := p
        rw [hct] at hb
        simp only [natBlt, cond_decide] at hb
        by_cases hg : P.globals.size < 4096
        · rw [if_pos hg] at hb; cases hb
          obtain ⟨c1, c2⟩ := conc_handle (P := P) (t := t) h hg
          refine OpOk.pure h ?_ ⟨c2, trivial⟩
          rw [run]
          have hcut : (cutType "internal/reflectlite.rtype").run P w = .ok rt w := by
            simp only [cutType, Sem.run_bind, run_program, Result.andThen_ok, hct, Sem.run_pure]
          have hi : (Extern.ReflectliteType.typeOf ⟨[Value.iface t v].map (conc μ)⟩).run P w = .ok (.iface rt (.agg #[typeHandle P t])) w := by
            show (Extern.ReflectliteType.toType t).run P w = _
            simp only [Extern.ReflectliteType.toType, Extern.Rtype.handle, Sem.run_bind, hcut, run_program, Result.andThen_ok, Sem.run_pure]
          rw [hi, ← c1]
          rfl
        · rw [if_neg hg] at hb; cases hb
    · cases hb
  · have : (fn.origin == "" && fn.name == "internal/reflectlite.TypeOf") = false := by
      rw [Bool.eq_false_iff]; intro e; apply hc; simpa using e
    rw [this] at hb; cases hb

noncomputable def extComparable (P : Program) : ExtF := fun fn args σ =>
  cond (fn.origin == "" && fn.name == "(internal/reflectlite.rtype).Comparable") (match args with
    | [.agg ⟨[.pointer (some ⟨b, t, none⟩)]⟩] => cond (Nat.beq b P.globals.size && (Nat.blt b 4096 && (!(P.packed t) && !(P.holdsPacked P.depth t)))) (match P.info? t with
      | some i => some (.val (.bool i.comparable), σ)
      | none => none) none
    | _ => none) none

theorem extComparable_ok : FnOk P G (extComparable P) := by
  intro f fn args σ r μ N0 w hf hbody hb h hw
  unfold extComparable at hb
  by_cases hc : fn.origin = "" ∧ fn.name = "(internal/reflectlite.rtype).Comparable"
  · obtain ⟨ho, hn⟩ := hc
    have h1 : (fn.origin == "" && fn.name == "(internal/reflectlite.rtype).Comparable") = true := by rw [ho, hn]; simp
    rw [h1, cond_true] at hb
    have g3 : ∃ e, Extern.allRows.lookup "(internal/reflectlite.rtype).Comparable" = some e ∧ e = Extern.ReflectliteType.method (fun t => do Extern.Rtype.noPackHeld "Comparable" t; pure (.bool (← typeInfo t).comparable)) := ⟨_, by kernel_rfl, rfl⟩
    obtain ⟨e, g3, he⟩ := g3
    have f1 : Extern.find fn = some e := by
      have g1 : Extern.allGenericRows.lookup "(internal/reflectlite.rtype).Comparable" = none := by kernel_rfl
      have g2 : Extern.allTypedRows.lookup "(internal/reflectlite.rtype).Comparable" = none := by kernel_rfl
      unfold Extern.find
      simp only [hn, g1, g2, g3]; rfl
    have f2 : Extern.findNext fn = none := noNext (by rw [hn]; kernel_rfl) ho
    split at hb
    · rename_i b t
      cases hq : (Nat.beq b P.globals.size && (Nat.blt b 4096 && (!(P.packed t) && !(P.holdsPacked P.depth t)))) with
      | false => rw [hq] at hb; cases hb
      | true =>
        rw [hq, cond_true] at hb
        simp only [Bool.and_eq_true, natBeq, natBlt, decide_eq_true_eq, Bool.not_eq_true'] at hq
        obtain ⟨q1, q2, q3, q4⟩ := hq
        subst q1
        cases hi : P.info? t with
        | none => rw [hi] at hb; cases hb
        | some i =>
          rw [hi] at hb; cases hb
          obtain ⟨c1, c2⟩ := conc_handle (P := P) (t := t) h q2
          refine OpOk.pure h ?_ trivial
          have run := run_callFunc_extern (args := ⟨[Value.agg ⟨[.pointer (some ⟨P.globals.size, t, none⟩)]⟩].map (conc μ)⟩) (w := w) hf (by rw [hn]; decide) (by rw [hbody]; rfl) f2 f1
          rw [run]
          have hh : handleType P (typeHandle P t) = some t := by simp [handleType, typeHandle]
          have hr : (e ⟨[Value.agg ⟨[.pointer (some ⟨P.globals.size, t, none⟩)]⟩].map (conc μ)⟩).run P w = .ok (.bool i.comparable) w := by
            subst he
            have ea : (⟨[Value.agg ⟨[.pointer (some ⟨P.globals.size, t, none⟩)]⟩].map (conc μ)⟩ : Array Value) = #[.agg #[typeHandle P t]] := by
              simp only [List.map_cons, List.map_nil]
              rw [← c1]
              simp only [conc, concA, concL]
            rw [ea]
            show (do
              let t ← (do let t ← Extern.Rtype.ofHandle (typeHandle P t); Extern.Rtype.noPack "a Type asked or handed on" t; pure t)
              Extern.Rtype.noPackHeld "Comparable" t
              pure (.bool (← typeInfo t).comparable) : Sem Value).run P w = _
            simp only [Extern.Rtype.ofHandle, Extern.Rtype.noPack, Extern.Rtype.noPackHeld, Sem.run_bind, run_program, Result.andThen_ok, hh, Sem.run_pure, q3, q4, Bool.false_eq_true, if_false, rInfo hi]
          rw [hr]
          rfl
    · cases hb
  · have : (fn.origin == "" && fn.name == "(internal/reflectlite.rtype).Comparable") = false := by
      rw [Bool.eq_false_iff]; intro e; apply hc; simpa using e
    rw [this] at hb; cases hb

noncomputable def extMostF (P : Program) : ExtF := orX (extFullF P) (orX (extTypeOf P) (extComparable P))
theorem extMostF_ok : FnOk P G (extMostF P) := orX_ok extFullF_ok (orX_ok extTypeOf_ok extComparable_ok)
noncomputable def extMost (P : Program) : Extn := .of (extMostF P)
theorem extMost_ok : ExtOk P G (extMost P) := .of extMostF_ok
end Vai

namespace Vai
open Go Go.RowKit

/-! A panic through a function whose last deferred call recovers, and never looks at what it recovered. -/
variable {P : Program} {X : Extn} {G : Sym} {μ : Mu} {N0 : Nat} {σ : Mem} {w : World}

/-- Operations that may stand behind the recover(). -/
def vPlain : Op → Bool
  | .move _ | .assign _ | .load _ _ | .store _ _ _ | .makeInterface _ _ | .unOp _ _ _ => true
  | .call c => match c.callee with
    | .value _ => true
    | _ => false
  | _ => false

theorem execOp_congr {ρ ρ' : Operand → Value} (o : Oper) (hp : vPlain o.op = true) (h : ∀ x ∈ opnds o.op, ρ x = ρ' x) : execOp ρ o = execOp ρ' o := by
  obtain ⟨dst, op, ty, pos, after, guard⟩ := o
  simp only at hp h
  unfold execOp
  simp only
  cases op with
  | move x => simp only [opnds] at h; simp only [h x (by simp)]
  | assign x => simp only [opnds] at h; simp only [h x (by simp)]
  | load t x => simp only [opnds] at h; simp only [h x (by simp)]
  | makeInterface t x => simp only [opnds] at h; simp only [h x (by simp)]
  | unOp a b x => simp only [opnds] at h; simp only [h x (by simp)]
  | store t a v => simp only [opnds] at h; simp only [h a (by simp), h v (by simp)]
  | call c =>
    simp only [vPlain] at hp
    cases hc : c.callee with
    | value f =>
      simp only [opnds, hc, List.mem_append] at h
      have hm : c.args.map ρ = c.args.map ρ' := by
        apply Array.ext'
        simp only [Array.toList_map]
        exact List.map_congr_left fun x hx => h x (.inr hx)
      simp only [resolve, hc, h f (.inl (by simp)), hm]
    | _ => rw [hc] at hp; cases hp
  | _ => cases hp

def readsT (t : Tmp) : Operand → Bool
  | .tmp s => Nat.beq s t
  | _ => false
def hidB (h : Option Tmp) (c : Operand) : Bool := match h with
  | some t => readsT t c
  | none => false
def dstIs (t : Tmp) : Option Tmp → Bool
  | some s => Nat.beq s t
  | none => false

theorem put_swap {a : Act} {t : Tmp} {dst : Option Tmp} {v x : Value} (h : dstIs t dst = false) : (a.put (some t) v).put dst x = (a.put dst x).put (some t) v := by
  cases dst with
  | none => rfl
  | some s =>
    have hne : s ≠ t := by
      intro e; subst e
      have : Nat.beq s s = false := h
      simp at this
    simp only [Act.put]
    rw [Array.setIfInBounds_comm _ _ (fun e => hne e.symm)]

theorem eval_hid {a : Act} {t : Tmp} {v : Value} {x : Operand} (h : readsT t x = false) : (a.put (some t) v).eval x = a.eval x :=
  Act.eval_put fun d hd => by
    cases hd
    rintro rfl
    have : Nat.beq t t = false := h
    simp at this

/-- One operation where a variable is not to be looked at. -/
noncomputable def stepH (P : Program) (X : Extn) (call : CallF) (ops : Array Oper) (t : Tmp) (o : Oper) (e : Env) (σ : Mem) : Option (Env × Mem) :=
  cond ((vPlain o.op && (opnds o.op).all fun x => !readsT t x) && ((!dstIs t o.dst) && o.guard.isNone)) (match evalStep P X call ops o e σ with
    | some (.normal, e', σ') => some (e', σ')
    | _ => none) none

theorem stepH_ok (hX : ExtOk P G X) {call : CallF} (hc : CallOk P G call) (h : Rel G μ N0 σ w) {ops : Array Oper} {o : Oper} {e e' : Env} {σ' : Mem} {a0 : Act} {t : Tmp} {v : Value}
    (hb : stepH P X call ops t o e σ = some (e', σ')) (hok : okOp o.op = true) (he : EnvRel [] μ σ.nxt e a0) {next : Act → World → Prop} {Q : Exit → Act → World → Prop}
    (hk : Goes [] G μ N0 σ w σ' e' fun a' w' => next (a'.put (some t) v) w') : Region.wanted o (yielded ops (a0.put (some t) v).tmps) = true ∧ o.wp P (a0.put (some t) v) w next Q := by
  unfold stepH at hb
  cases hcd : ((vPlain o.op && (opnds o.op).all fun x => !readsT t x) && ((!dstIs t o.dst) && o.guard.isNone)) with
  | false => rw [hcd] at hb; cases hb
  | true =>
    rw [hcd, cond_true] at hb
    simp only [Bool.and_eq_true, List.all_eq_true, Bool.not_eq_true'] at hcd
    obtain ⟨⟨p1, p2⟩, p3, p4⟩ := hcd
    have hgn : o.guard = none := Option.isNone_iff_eq_none.1 p4
    refine ⟨by unfold Region.wanted; rw [hgn], ?_⟩
    have hex : execOp (a0.put (some t) v).eval o = execOp a0.eval o := execOp_congr o p1 fun x hx => eval_hid (p2 x hx)
    unfold Oper.wp
    rw [hex]
    unfold evalStep at hb
    have hw : wants ops e o = true := by rw [wants_def, hgn]
    rw [hw, cond_true] at hb
    cases hop : evalOp P X e.eval σ o with
    | none => rw [hop] at hb; cases hb
    | some r =>
      obtain ⟨nx, σ1⟩ := r
      rw [hop] at hb
      obtain ⟨μ1, w1, r1, x1, hm⟩ := evalOp_ok hX h hop hok (fun y hy => he.eval trivial h.glob h.gnxt y hy)
      cases nx with
      | val u =>
        simp only at hb hm
        cases hp : e.put o.dst u with
        | none => rw [hp] at hb; cases hb
        | some e1 =>
          rw [hp] at hb; cases hb
          rw [hm.1]
          show next ((a0.put (some t) v).put o.dst _) w1
          rw [put_swap p3]
          exact hk μ1 w1 _ r1 x1 ((he.mono x1.agree x1.nxt).put hp hm.2)
      | skip =>
        simp only at hb hm
        cases hp : e.put o.dst uv with
        | none => rw [hp] at hb; cases hb
        | some e1 =>
          rw [hp] at hb; cases hb
          rw [hm]
          show next ((a0.put (some t) v).put o.dst _) w1
          rw [put_swap p3]
          exact hk μ1 w1 _ r1 x1 ((he.mono x1.agree x1.nxt).put (v := uv) hp trivial)
      | panic => simp only at hb; cases hb
      | enter f args =>
        simp only at hb hm
        rw [hm.1]
        show Calls P f _ w1 _
        cases hcl : call f args σ1 with
        | none => rw [hcl] at hb; cases hb
        | some q =>
          obtain ⟨fr, σ2⟩ := q
          rw [hcl] at hb
          refine (hc f args σ1 fr σ2 hcl μ1 N0 w1 r1 hm.2).mono ?_
          rintro en w2 ⟨μ2, r2, x2, hfr⟩
          cases fr with
          | ret u =>
            simp only at hb hfr
            cases hp : e.put o.dst u with
            | none => rw [hp] at hb; cases hb
            | some e1 =>
              rw [hp] at hb; cases hb
              rw [hfr.1]
              show next ((a0.put (some t) v).put o.dst _) w2
              rw [put_swap p3]
              exact hk μ2 w2 _ r2 (x1.trans x2) (((he.mono x1.agree x1.nxt).mono x2.agree x2.nxt).put hp hfr.2)
          | panic => simp only at hb; cases hb

/-- The variable in which a recover() is laid. -/
def isRec (o : Oper) : Option Tmp :=
  match o.op, o.dst, o.guard with
  | .call c, some t, none => match c.callee, c.args.toList with
    | .builtin .recover, [] => some t
    | _, _ => none
  | _, _, _ => none
theorem isRec_run {o : Oper} {t : Tmp} (h : isRec o = some t) (ρ : Operand → Value) (w : World) : (execOp ρ o).run P w = .ok .recover w ∧ o.dst = some t ∧ o.guard = none := by
  obtain ⟨dst, op, ty, pos, after, guard⟩ := o
  unfold isRec at h
  simp only at h
  split at h
  · rename_i c t'
    split at h
    · rename_i hcal harg
      cases h
      refine ⟨?_, rfl, rfl⟩
      simp only [execOp, resolve, hcal, Sem.run_bind, Sem.run_pure, Result.andThen_ok, invoke, builtin]
    · cases h
  · cases h

abbrev HR := Option (Option Tmp × Env × Mem)
noncomputable def evalOpsR (P : Program) (X : Extn) (call : CallF) (ops : Array Oper) (l : List Oper) : Option Tmp → Env → Mem → HR :=
  List.rec (motive := fun _ => Option Tmp → Env → Mem → HR) (fun h e σ => some (h, e, σ))
    (fun o _ ih h e σ => match h with
      | some t => match stepH P X call ops t o e σ with
        | some (e', σ') => ih (some t) e' σ'
        | none => none
      | none => match isRec o with
        | some t => ih (some t) e σ
        | none => match evalStep P X call ops o e σ with
          | some (.normal, e', σ') => ih none e' σ'
          | _ => none) l
theorem evalOpsR_cons (ops : Array Oper) (call : CallF) (o : Oper) (l : List Oper) (h : Option Tmp) (e : Env) (σ : Mem) : evalOpsR P X call ops (o :: l) h e σ = (match h with
      | some t => match stepH P X call ops t o e σ with
        | some (e', σ') => evalOpsR P X call ops l (some t) e' σ'
        | none => none
      | none => match isRec o with
        | some t => evalOpsR P X call ops l (some t) e σ
        | none => match evalStep P X call ops o e σ with
          | some (.normal, e', σ') => evalOpsR P X call ops l none e' σ'
          | _ => none) := rfl

/-- The variables, and the callers' frames: ahead of the recover() and behind it. -/
def RelR (v : Value) (cs0 cs1 : List Frame) (μ : Mu) (n : Nat) (h : Option Tmp) (e : Env) (a : Act) (cs : List Frame) : Prop :=
  match h with
  | none => EnvRel [] μ n e a ∧ cs = cs0
  | some t => ∃ a0, EnvRel [] μ n e a0 ∧ a = a0.put (some t) v ∧ cs = cs1

def GoesR (v : Value) (cs0 cs1 : List Frame) (G : Sym) (μ : Mu) (N0 : Nat) (σ : Mem) (w : World) (σ' : Mem) (h' : Option Tmp) (e' : Env) (K : Act → List Frame → World → Prop) : Prop :=
  ∀ μ' w' a' cs', Rel G μ' N0 σ' w' → Ext μ σ w μ' σ' w' → RelR v cs0 cs1 μ' σ'.nxt h' e' a' cs' → K a' cs' w'
theorem GoesR.trans {v : Value} {cs0 cs1 : List Frame} {σ1 σ2 : Mem} {h2 : Option Tmp} {e2 : Env} {K : Act → List Frame → World → Prop} {μ1 : Mu} {w1 : World} (hx : Ext μ σ w μ1 σ1 w1) (h : GoesR v cs0 cs1 G μ N0 σ w σ2 h2 e2 K) : GoesR v cs0 cs1 G μ1 N0 σ1 w1 σ2 h2 e2 K :=
  fun μ' w' a' cs' r x he => h μ' w' a' cs' r (hx.trans x) he

theorem wpOpsS_op {ops : Array Oper} {Q : Exit → Act → List Frame → World → Prop} {i : Nat} {rest : List Nat} {o : Oper} {a : Act} {cs : List Frame} (ho : ops[i]? = some o)
    (h : if Region.wanted o (yielded ops a.tmps) then o.wp P a w (fun a' w' => wpOpsS P ops Q rest a' cs w') (fun e a' w' => Q e a' cs w') else wpOpsS P ops Q rest (a.put o.dst undef) cs w) :
    wpOpsS P ops Q (i :: rest) a cs w := by
  rw [wpOpsS]
  simp only [ho]
  split at h
  · rename_i hw
    rw [if_pos hw]
    unfold Oper.wp at h
    split
    · rename_i w' hr; rw [hr] at h; exact h.elim
    · exact h
  · rename_i hw
    rw [if_neg hw]
    exact h

theorem evalOpsR_ok (hX : ExtOk P G X) {call : CallF} (hc : CallOk P G call) {v : Value} {cs0 cs1 : List Frame} (hrec : recoverD cs0 = some (v, cs1)) {ops : Array Oper} {Q : Exit → Act → List Frame → World → Prop} : ∀ (l : List Oper) (i : Nat), (∀ k, l[k]? = ops[i + k]?) →
    ∀ {μ : Mu} {σ : Mem} {w : World} {h h' : Option Tmp} {e e' : Env} {σ' : Mem} {a : Act} {cs : List Frame}, Rel G μ N0 σ w → evalOpsR P X call ops l h e σ = some (h', e', σ') → okOps l = true → RelR v cs0 cs1 μ σ.nxt h e a cs →
    GoesR v cs0 cs1 G μ N0 σ w σ' h' e' (fun a' cs' w' => Q .normal a' cs' w') → wpOpsS P ops Q (List.range' i l.length) a cs w
  | [], i, _, μ, σ, w, h, h', e, e', σ', a, cs, hr, hb, _, he, hk => by
    have : some (h, e, σ) = some (h', e', σ') := hb
    cases this
    exact hk μ w a cs hr (Ext.refl _ _ _) he
  | o :: l, i, hl, μ, σ, w, h, h', e, e', σ', a, cs, hr, hb, hok, he, hk => by
    rw [evalOpsR_cons] at hb
    rw [okOps_cons] at hok
    have hok1 : okOp o.op = true := by cases h1 : okOp o.op <;> simp [h1] at hok ⊢
    have hok2 : okOps l = true := by rw [hok1] at hok; exact hok
    have h0 : ops[i]? = some o := by have := hl 0; simpa using this.symm
    have hl' : ∀ k, l[k]? = ops[i + 1 + k]? := fun k => by have := hl (k + 1); rw [List.getElem?_cons_succ] at this; rw [this]; congr 1; omega
    rw [List.length_cons, List.range'_succ]
    cases h with
    | some t =>
      simp only at hb
      obtain ⟨a0, he0, rfl, hcs⟩ := he
      have hcs' := hcs.symm
      subst hcs'
      cases hs : stepH P X call ops t o e σ with
      | none => rw [hs] at hb; cases hb
      | some q =>
        obtain ⟨e1, σ1⟩ := q
        rw [hs] at hb; simp only at hb
        obtain ⟨k1, k2⟩ := stepH_ok (Q := fun e a' w' => Q e a' cs1 w') hX hc hr hs hok1 he0 (next := fun a' w' => wpOpsS P ops Q (List.range' (i + 1) l.length) a' cs1 w') (fun μ1 w1 a1 r1 x1 he1 =>
          evalOpsR_ok hX hc hrec l (i + 1) hl' r1 hb hok2 ⟨a1, he1, rfl, rfl⟩ (hk.trans x1))
        refine wpOpsS_op h0 ?_
        rw [if_pos k1]
        exact k2
    | none =>
      simp only at hb
      obtain ⟨he0, hcs⟩ := he
      have hcs' := hcs.symm
      subst hcs'
      cases hir : isRec o with
      | some t =>
        rw [hir] at hb; simp only at hb
        obtain ⟨q1, q2, q3⟩ := isRec_run (P := P) hir a.eval w
        rw [wpOpsS]
        simp only [h0]
        rw [if_pos (by unfold Region.wanted; rw [q3])]
        rw [q1]
        simp only [hrec]
        refine evalOpsR_ok hX hc hrec l (i + 1) hl' hr hb hok2 ⟨a, he0, by rw [q2], rfl⟩ hk
      | none =>
        rw [hir] at hb; simp only at hb
        cases hs : evalStep P X call ops o e σ with
        | none => rw [hs] at hb; cases hb
        | some q =>
          obtain ⟨x1, e1, σ1⟩ := q
          rw [hs] at hb
          cases x1 with
          | normal =>
            simp only at hb
            refine wpOpsS_op h0 ?_
            exact evalStep_ok (Df := []) hX trivial hc hr hs hok1 he0 (fun a' w' => wpOpsS P ops Q (List.range' (i + 1) l.length) a' cs0 w') (fun e a' w' => Q e a' cs0 w') (fun μ1 w1 a1 r1 x1 he1 =>
              evalOpsR_ok hX hc hrec l (i + 1) hl' r1 hb hok2 ⟨he1, rfl⟩ (hk.trans x1))
          | panic => cases hb
          | ret => cases hb
          | exit id => cases hb

abbrev CR := Option (Bool × Option Tmp × Env × Mem)
/-- The code of a deferred call; true: it went to its end. -/
noncomputable def evalR (P : Program) (X : Extn) (call : CallF) (c : Code) : Option Tmp → Env → Mem → CR :=
  Code.rec (motive := fun _ => Option Tmp → Env → Mem → CR)
    (fun h e σ => some (true, h, e, σ))
    (fun _ ops draw h e σ => cond draw none (match evalOpsR P X call ops ops.toList h e σ with
      | some (h', e', σ') => some (true, h', e', σ')
      | none => none))
    (fun _ _ iha ihb h e σ => match iha h e σ with
      | some (true, h', e', σ') => ihb h' e' σ'
      | r => r)
    (fun c _ _ ihx ihy h e σ => cond (hidB h c) none (match e.eval c with
        | .bool b => cond b (ihx h e σ) (ihy h e σ)
        | _ => none))
    (fun _ _ _ _ _ _ => none)
    (fun _ _ _ _ _ => none)
    (fun _ _ _ _ _ _ _ _ _ => none)
    (fun _ _ _ _ => none)
    (fun _ _ _ _ _ => none)
    (fun _ _ _ _ => none)
    (fun _ _ _ _ => none)
    (fun h e σ => some (false, h, e, σ))
    (fun _ _ _ _ => none)
    c

theorem evalR_ok (hX : ExtOk P G X) {call : CallF} (hc : CallOk P G call) {v : Value} {cs0 cs1 : List Frame} (hrec : recoverD cs0 = some (v, cs1)) : ∀ (c : Code), okCode c = true →
    ∀ {μ : Mu} {σ : Mem} {w : World} {h h' : Option Tmp} {e e' : Env} {σ' : Mem} {b : Bool} {a : Act} {cs : List Frame} {Q : Exit → Act → List Frame → World → Prop}, Rel G μ N0 σ w → evalR P X call c h e σ = some (b, h', e', σ') → RelR v cs0 cs1 μ σ.nxt h e a cs →
    GoesR v cs0 cs1 G μ N0 σ w σ' h' e' (fun a' cs' w' => Q (if b then .normal else .ret) a' cs' w') → c.wpS P Q a cs w := by
  intro c
  induction c with
  | skip =>
    intro _ μ σ w h h' e e' σ' b a cs Q hr hb he hk
    have : some (true, h, e, σ) = some (b, h', e', σ') := hb
    cases this
    exact wpS_of_wp (wp_skip (hk μ w a cs hr (Ext.refl _ _ _) he))
  | region id ops draw =>
    intro hok μ σ w h h' e e' σ' b a cs Q hr hb he hk
    cases draw with
    | true => cases (show (none : CR) = some (b, h', e', σ') from hb)
    | false =>
      have hb' : (match evalOpsR P X call ops ops.toList h e σ with
        | some (h', e', σ') => some (true, h', e', σ')
        | none => none) = some (b, h', e', σ') := hb
      cases h1 : evalOpsR P X call ops ops.toList h e σ with
      | none => rw [h1] at hb'; cases hb'
      | some q =>
        obtain ⟨h2, e2, σ2⟩ := q
        rw [h1] at hb'
        cases hb'
        refine wpS_region ?_
        have := evalOpsR_ok (Q := Q) hX hc hrec ops.toList 0 (fun k => by simp) hr h1 hok he hk
        rw [Array.length_toList, ← List.range_eq_range'] at this
        exact this
  | seq x y ihx ihy =>
    intro hok μ σ w h h' e e' σ' b a cs Q hr hb he hk
    have hok' : cond (okCode x) (okCode y) false = true := hok
    have o1 : okCode x = true := by cases h1 : okCode x <;> simp [h1] at hok' ⊢
    have o2 : okCode y = true := by rw [o1] at hok'; exact hok'
    have hb' : (match evalR P X call x h e σ with
      | some (true, h', e', σ') => evalR P X call y h' e' σ'
      | r => r) = some (b, h', e', σ') := hb
    cases h1 : evalR P X call x h e σ with
    | none => rw [h1] at hb'; cases hb'
    | some q =>
      obtain ⟨b1, h2, e1, σ1⟩ := q
      rw [h1] at hb'
      refine wpS_seq (ihx o1 hr h1 he ?_)
      intro μ1 w1 a1 cs1' r1 k1 he1
      cases b1 with
      | true => exact ihy o2 r1 hb' he1 (hk.trans k1)
      | false => cases hb'; exact hk μ1 w1 a1 cs1' r1 k1 he1
  | cond c x y ihx ihy =>
    intro hok μ σ w h h' e e' σ' b a cs Q hr hb he hk
    have hok' : cond (okB c) (cond (okCode x) (okCode y) false) false = true := hok
    have o0 : okB c = true := by cases h1 : okB c <;> simp [h1] at hok' ⊢
    rw [o0, cond_true] at hok'
    have o1 : okCode x = true := by cases h1 : okCode x <;> simp [h1] at hok' ⊢
    have o2 : okCode y = true := by rw [o1] at hok'; exact hok'
    have hb' : cond (hidB h c) none (match e.eval c with
        | .bool b => cond b (evalR P X call x h e σ) (evalR P X call y h e σ)
        | _ => none) = some (b, h', e', σ') := hb
    cases hh : hidB h c with
    | true => rw [hh] at hb'; cases hb'
    | false =>
      rw [hh, cond_false] at hb'
      cases hv : e.eval c <;> rw [hv] at hb' <;> (try (cases hb'; done))
      rename_i t
      have hev : a.eval c = .bool t := by
        cases h with
        | none =>
          have := (he.1.eval trivial hr.glob hr.gnxt c o0).1
          rw [hv] at this; exact this
        | some s =>
          obtain ⟨a0, he0, rfl, _⟩ := he
          rw [eval_hid hh]
          have := (he0.eval trivial hr.glob hr.gnxt c o0).1
          rw [hv] at this; exact this
      refine wpS_cond hev ?_
      cases t with
      | true => exact ihx o1 hr hb' he hk
      | false => exact ihy o2 hr hb' he hk
  | block id body ih => intro _ μ σ w h h' e e' σ' b a cs Q hr hb; cases (show (none : CR) = some (b, h', e', σ') from hb)
  | loop body ih => intro _ μ σ w h h' e e' σ' b a cs Q hr hb; cases (show (none : CR) = some (b, h', e', σ') from hb)
  | rangeFunc f ps x y ihx ihy => intro _ μ σ w h h' e e' σ' b a cs Q hr hb; cases (show (none : CR) = some (b, h', e', σ') from hb)
  | exit id => intro _ μ σ w h h' e e' σ' b a cs Q hr hb; cases (show (none : CR) = some (b, h', e', σ') from hb)
  | scope body ih => intro _ μ σ w h h' e e' σ' b a cs Q hr hb; cases (show (none : CR) = some (b, h', e', σ') from hb)
  | label l => intro _ μ σ w h h' e e' σ' b a cs Q hr hb; cases (show (none : CR) = some (b, h', e', σ') from hb)
  | goto l => intro _ μ σ w h h' e e' σ' b a cs Q hr hb; cases (show (none : CR) = some (b, h', e', σ') from hb)
  | ret =>
    intro _ μ σ w h h' e e' σ' b a cs Q hr hb he hk
    have : some (false, h, e, σ) = some (b, h', e', σ') := hb
    cases this
    exact wpS_of_wp (wp_ret (hk μ w a cs hr (Ext.refl _ _ _) he))
  | refuse s => intro _ μ σ w h h' e e' σ' b a cs Q hr hb; cases (show (none : CR) = some (b, h', e', σ') from hb)

/-- The deferred calls of a function that panicked: the last one recovers. -/
noncomputable def evalDefsR (P : Program) (X : Extn) (Dr : DrawF) (call : CallF) (fuel : Nat) (D : List ADef) (σ : Mem) : Option Mem :=
  match D with
  | [] => none
  | d :: D' => match P.funcs[d.fn]? with
    | none => none
    | some fn => match fn.body with
      | none => none
      | some c => cond ((!(fn.name == "runtime.NumGoroutine")) && (Nat.ble (d.args ++ d.cap).length fn.ntmps && Nat.ble fn.ntmps 1000000 && okCode c))
        (match evalR P X call c none ⟨T.ofList (d.args ++ d.cap) 0 .leaf, fn.ntmps⟩ σ with
        | some (_, some _, e, σ') => match fn.results.toList with
          | [] => evalDefs P X Dr call fuel D' σ'
          | _ :: _ => none
        | _ => none) none
theorem results_none {fn : Func} (h : fn.results.toList = []) (tmps tmps' : Array Value) : results fn tmps = results fn tmps' := by
  have hr : fn.results = #[] := Array.ext' (by rw [h])
  unfold results
  rw [hr]
  simp

theorem evalDefsR_ok (hX : ExtOk P G X) (hG : True) {Dr : DrawF} (hD : DrawOk P G X Dr) {call : CallF} (hc : CallOk P G call) (fuel : Nat) {fn0 : Func} {tmps : Array Value} {R : Ending → World → Prop} (v : Value) : ∀ (D : List ADef) {μ : Mu} {σ σ2 : Mem} {w : World}, Rel G μ N0 σ w → (∀ d ∈ D, wfD σ.nxt d) →
    evalDefsR P X Dr call fuel D σ = some σ2 →
    (∀ μ2 w2, Rel G μ2 N0 σ2 w2 → Ext μ σ w μ2 σ2 w2 → ∃ v, (results fn0 tmps).run P w2 = .ok v w2 ∧ R (.returned v) w2) → Leaves P fn0 tmps R (D.map (concD μ)) (.panicking [{ v, recovered := false }]) w
  | [], μ, σ, σ2, w, h, hd, hb, hR => by cases (show (none : Option Mem) = some σ2 from hb)
  | d :: D, μ, σ, σ2, w, h, hd, hb, hR => by
    unfold evalDefsR at hb
    simp only at hb
    cases hf : P.funcs[d.fn]? with
    | none => rw [hf] at hb; cases hb
    | some fn =>
      rw [hf] at hb; simp only at hb
      cases hbd : fn.body with
      | none => rw [hbd] at hb; cases hb
      | some c =>
        rw [hbd] at hb; simp only at hb
        cases hcc : ((!(fn.name == "runtime.NumGoroutine")) && (Nat.ble (d.args ++ d.cap).length fn.ntmps && Nat.ble fn.ntmps 1000000 && okCode c)) with
        | false => rw [hcc] at hb; cases hb
        | true =>
          rw [hcc, cond_true] at hb
          simp only [Bool.and_eq_true, Bool.not_eq_true', natBle, decide_eq_true_eq] at hcc
          obtain ⟨hn, ⟨c1, c2⟩, c3⟩ := hcc
          have hwd := hd d (List.mem_cons_self ..)
          have hwa : wfA σ.nxt ⟨d.args ++ d.cap⟩ := (wfL_iff _ _).2 fun v hv => by
            rcases List.mem_append.1 hv with hv | hv
            · exact (wfL_iff _ _).1 hwd.1 v hv
            · exact (wfL_iff _ _).1 hwd.2 v hv
          have hen := entry_env (μ := μ) (σ := σ) (args := ⟨d.args ++ d.cap⟩) c1 c2 hwa
          have happ : (⟨d.args.map (conc μ)⟩ ++ ⟨d.cap.map (conc μ)⟩ : Array Value) = concA μ ⟨d.args ++ d.cap⟩ := by
            rw [concA_map]; apply Array.ext'; simp
          have hinv : (invoke (concD μ d).target (concD μ d).args).run P w = .ok (.enter d.fn (concA μ ⟨d.args ++ d.cap⟩)) w := by
            show (callFunc d.fn (⟨d.args.map (conc μ)⟩ ++ ⟨d.cap.map (conc μ)⟩)).run P w = _
            rw [happ]
            simp only [callFunc, Sem.run_bind, run_program, Result.andThen_ok, hf, hn, Bool.false_eq_true, if_false, hbd, Option.isNone_some, Sem.run_pure]
          cases hev : evalR P X call c none ⟨T.ofList (d.args ++ d.cap) 0 .leaf, fn.ntmps⟩ σ with
          | none => rw [hev] at hb; cases hb
          | some q =>
            obtain ⟨b, ht, e1, σ1⟩ := q
            rw [hev] at hb
            cases ht with
            | none => cases hb
            | some t =>
              simp only at hb
              cases hrs : fn.results.toList with
              | cons x l => rw [hrs] at hb; cases hb
              | nil =>
                rw [hrs] at hb; simp only at hb
                refine ⟨(fun e => by cases e), .func d.fn, _, d.fn, _, rfl, hinv, ?_⟩
                refine CallsD.mono (callsD_of_wpS (R := fun en u' w' => ∃ v', en = .returned v' ∧ u' = .panicking [{ v, recovered := true }] ∧ Leaves P fn0 tmps R (D.map (concD μ)) .returning w') hf hbd ?_) ?_
                · intro c₀ cs hmode
                  have hrec : recoverD (c₀ :: cs) = some (v, { c₀ with mode := .panicking [{ v, recovered := true }] } :: cs) := by
                    simp [recoverD, hmode]
                  refine evalR_ok hX hc hrec c c3 h hev (show RelR v _ _ μ σ.nxt none _ _ _ from ⟨hen, rfl⟩) ?_
                  intro μ1 w1 a1 cs' r1 k1 he1
                  obtain ⟨a0, he0, rfl, rfl⟩ := he1
                  have hd1 : ∀ d' ∈ D, wfD σ1.nxt d' := fun d' hd' => ⟨wfL_mono' k1.nxt (hd d' (List.mem_cons_of_mem _ hd')).1, wfL_mono' k1.nxt (hd d' (List.mem_cons_of_mem _ hd')).2⟩
                  have hres : ∃ u, (results fn (a0.put (some t) v).tmps).run P w1 = .ok u w1 := by
                    have hr0 : aResults P fn e1 σ1 = some (.tuple #[]) := by unfold aResults; rw [hrs]
                    obtain ⟨q1, _⟩ := aResults_run r1 he0 hr0
                    exact ⟨_, by rw [results_none hrs _ a0.tmps]; exact q1⟩
                  obtain ⟨v', hv'⟩ := hres
                  have fin : a0.defers = [] ∧ ∃ u', ({ c₀ with mode := .panicking [{ v, recovered := true }] } : Frame) :: cs = { c₀ with mode := u' } :: cs ∧ ∃ v2, (results fn (a0.put (some t) v).tmps).run P w1 = .ok v2 w1 ∧
                      ∃ v', Ending.returned v2 = .returned v' ∧ u' = .panicking [{ v, recovered := true }] ∧ Leaves P fn0 tmps R (D.map (concD μ)) .returning w1 := by
                    refine ⟨he0.defers, _, rfl, v', hv', v', rfl, rfl, ?_⟩
                    rw [← concD_agree k1.agree (fun d' hd' => hd d' (List.mem_cons_of_mem _ hd'))]
                    exact evalDefs_ok hX hG hD hc fuel D r1 hd1 hb fun μ2 w2 r2 k2 => hR μ2 w2 r2 (k1.trans k2)
                  cases b <;> exact fin
                · rintro en u' w' ⟨v', rfl, rfl, hl⟩
                  exact hl

/-- As evalFnE, but for a panic that is recovered too. -/
noncomputable def evalFnR (P : Program) (X : Extn) (S : CallF) (Dr : DrawF) (fuel : Nat) : CallF :=
  Nat.rec (motive := fun _ => CallF) (fun _ _ _ => none)
    (fun n ih f args σ => match S f args σ with
    | some r => some r
    | none => match P.funcs[f]? with
      | none => none
      | some fn => match fn.body with
        | none => none
        | some c => cond (Nat.ble args.toList.length fn.ntmps && Nat.ble fn.ntmps 1000000 && okCode c)
          (cond (hasDefer c)
            (match evalSp P X Dr ih n c [] ⟨T.ofList args.toList 0 .leaf, fn.ntmps⟩ σ with
            | some (.normal, D, e, σ') => match evalDefs P X Dr ih n D σ' with
              | some σ'' => match aResults P fn e σ'' with
                | some v => some (.ret v, σ'')
                | none => none
              | none => none
            | some (.ret, D, e, σ') => match evalDefs P X Dr ih n D σ' with
              | some σ'' => match aResults P fn e σ'' with
                | some v => some (.ret v, σ'')
                | none => none
              | none => none
            | some (.panic, D, e, σ') => match evalDefsR P X Dr ih n D σ' with
              | some σ'' => match aResults P fn e σ'' with
                | some v => some (.ret v, σ'')
                | none => none
              | none => none
            | _ => none)
            (match evalCode P X Dr ih n c ⟨T.ofList args.toList 0 .leaf, fn.ntmps⟩ σ with
            | some (.normal, e, σ') => match aResults P fn e σ' with
              | some v => some (.ret v, σ')
              | none => none
            | some (.ret, e, σ') => match aResults P fn e σ' with
              | some v => some (.ret v, σ')
              | none => none
            | some (.panic, _, σ') => some (.panic, σ')
            | _ => none)) none) fuel

theorem evalFnR_succ (P : Program) (X : Extn) (S : CallF) (Dr : DrawF) (n : Nat) (f : FuncId) (args : Array Value) (σ : Mem) : evalFnR P X S Dr (n + 1) f args σ = (match S f args σ with
    | some r => some r
    | none => match P.funcs[f]? with
      | none => none
      | some fn => match fn.body with
        | none => none
        | some c => cond (Nat.ble args.toList.length fn.ntmps && Nat.ble fn.ntmps 1000000 && okCode c)
          (cond (hasDefer c)
            (match evalSp P X Dr (evalFnR P X S Dr n) n c [] ⟨T.ofList args.toList 0 .leaf, fn.ntmps⟩ σ with
            | some (.normal, D, e, σ') => match evalDefs P X Dr (evalFnR P X S Dr n) n D σ' with
              | some σ'' => match aResults P fn e σ'' with
                | some v => some (.ret v, σ'')
                | none => none
              | none => none
            | some (.ret, D, e, σ') => match evalDefs P X Dr (evalFnR P X S Dr n) n D σ' with
              | some σ'' => match aResults P fn e σ'' with
                | some v => some (.ret v, σ'')
                | none => none
              | none => none
            | some (.panic, D, e, σ') => match evalDefsR P X Dr (evalFnR P X S Dr n) n D σ' with
              | some σ'' => match aResults P fn e σ'' with
                | some v => some (.ret v, σ'')
                | none => none
              | none => none
            | _ => none)
            (match evalCode P X Dr (evalFnR P X S Dr n) n c ⟨T.ofList args.toList 0 .leaf, fn.ntmps⟩ σ with
            | some (.normal, e, σ') => match aResults P fn e σ' with
              | some v => some (.ret v, σ')
              | none => none
            | some (.ret, e, σ') => match aResults P fn e σ' with
              | some v => some (.ret v, σ')
              | none => none
            | some (.panic, _, σ') => some (.panic, σ')
            | _ => none)) none) := rfl

/-- What the evaluation of a function says, its call does; also where calls are put off. -/
theorem evalFnR_ok (hX : ExtOk P G X) (hG : True) {S : CallF} (hS : CallOk P G S) {Dr : DrawF} (hD : DrawOk P G X Dr) : ∀ (n : Nat), CallOk P G (evalFnR P X S Dr n)
  | 0 => fun f args σ r σ' hb => by have : (none : Option (FR × Mem)) = some (r, σ') := hb; cases this
  | n + 1 => fun f args σ r σ' hb μ N0 w h hw => by
    have ih := evalFnR_ok hX hG hS hD n
    rw [evalFnR_succ] at hb
    cases hs : S f args σ with
    | some q => rw [hs] at hb; cases hb; exact hS f args σ r σ' hs μ N0 w h hw
    | none =>
    rw [hs] at hb; simp only at hb
    cases hf : P.funcs[f]? with
    | none => rw [hf] at hb; cases hb
    | some fn =>
      rw [hf] at hb; simp only at hb
      cases hbd : fn.body with
      | none => rw [hbd] at hb; cases hb
      | some c =>
        rw [hbd] at hb; simp only at hb
        cases hc : (Nat.ble args.toList.length fn.ntmps && Nat.ble fn.ntmps 1000000 && okCode c) with
        | false => rw [hc] at hb; cases hb
        | true =>
          rw [hc, cond_true] at hb
          simp only [Bool.and_eq_true, natBle, decide_eq_true_eq] at hc
          obtain ⟨⟨c1, c2⟩, c3⟩ := hc
          have he := entry_env (μ := μ) (σ := σ) (args := args) c1 c2 hw
          cases hdf : hasDefer c with
          | false =>
            rw [hdf, cond_false] at hb
            cases hev : evalCode P X Dr (evalFnR P X S Dr n) n c ⟨T.ofList args.toList 0 .leaf, fn.ntmps⟩ σ with
            | none => rw [hev] at hb; cases hb
            | some q =>
              obtain ⟨x, e', σ2⟩ := q
              rw [hev] at hb
              refine calls_of_wp hf hbd (evalCode_ok hX hG hD ih n c c3 h hev he ?_)
              intro μ1 w1 a1 r1 k1 he1
              cases x with
              | normal =>
                simp only at hb
                cases hr : aResults P fn e' σ2 with
                | none => rw [hr] at hb; cases hb
                | some v =>
                  rw [hr] at hb; cases hb
                  obtain ⟨q1, q2⟩ := aResults_run r1 he1 hr
                  exact ⟨he1.defers, _, q1, μ1, r1, k1, rfl, q2⟩
              | ret =>
                simp only at hb
                cases hr : aResults P fn e' σ2 with
                | none => rw [hr] at hb; cases hb
                | some v =>
                  rw [hr] at hb; cases hb
                  obtain ⟨q1, q2⟩ := aResults_run r1 he1 hr
                  exact ⟨he1.defers, _, q1, μ1, r1, k1, rfl, q2⟩
              | panic =>
                simp only at hb
                cases hb
                intro v
                exact ⟨he1.defers, μ1, r1, k1, v, rfl⟩
              | exit id => cases hb
          | true =>
            rw [hdf, cond_true] at hb
            cases hev : evalSp P X Dr (evalFnR P X S Dr n) n c [] ⟨T.ofList args.toList 0 .leaf, fn.ntmps⟩ σ with
            | none => rw [hev] at hb; cases hb
            | some q =>
              obtain ⟨x, D', e', σ1⟩ := q
              rw [hev] at hb
              refine calls_of_wp_defers hf hbd (evalSp_ok hX hG hD ih n c c3 h hev (fun d hd => absurd hd (by simp)) he ?_)
              intro μ1 w1 a1 r1 k1 hd1 he1
              have fin : ∀ {σ2 : Mem} {v : Value}, evalDefs P X Dr (evalFnR P X S Dr n) n D' σ1 = some σ2 → aResults P fn e' σ2 = some v → r = .ret v → σ' = σ2 → Leaves P fn a1.tmps (fun en w' => ∃ μ', Rel G μ' N0 σ' w' ∧ Ext μ σ w μ' σ' w' ∧ match r with
                  | .ret v => en = .returned (conc μ' v) ∧ wf σ'.nxt v
                  | .panic => ∃ v, en = .panicked [{ v, recovered := false }]) a1.defers .returning w1 := by
                intro σ2 v hb2 hr er es
                subst er; subst es
                rw [he1.defers]
                refine evalDefs_ok hX hG hD ih n D' r1 hd1 hb2 fun μ2 w2 r2 k2 => ?_
                obtain ⟨q1, q2⟩ := aResults_run r2 (he1.mono k2.agree k2.nxt) hr
                exact ⟨_, q1, μ2, r2, k1.trans k2, rfl, q2⟩
              cases x with
              | normal =>
                simp only at hb
                cases hb2 : evalDefs P X Dr (evalFnR P X S Dr n) n D' σ1 with
                | none => rw [hb2] at hb; cases hb
                | some σ2 =>
                  rw [hb2] at hb; simp only at hb
                  cases hr : aResults P fn e' σ2 with
                  | none => rw [hr] at hb; cases hb
                  | some v => rw [hr] at hb; cases hb; exact fin hb2 hr rfl rfl
              | ret =>
                simp only at hb
                cases hb2 : evalDefs P X Dr (evalFnR P X S Dr n) n D' σ1 with
                | none => rw [hb2] at hb; cases hb
                | some σ2 =>
                  rw [hb2] at hb; simp only at hb
                  cases hr : aResults P fn e' σ2 with
                  | none => rw [hr] at hb; cases hb
                  | some v => rw [hr] at hb; cases hb; exact fin hb2 hr rfl rfl
              | panic =>
                simp only at hb
                cases hb2 : evalDefsR P X Dr (evalFnR P X S Dr n) n D' σ1 with
                | none => rw [hb2] at hb; cases hb
                | some σ2 =>
                  rw [hb2] at hb; simp only at hb
                  cases hr : aResults P fn e' σ2 with
                  | none => rw [hr] at hb; cases hb
                  | some v =>
                    rw [hr] at hb; cases hb
                    intro pv
                    show Leaves P fn a1.tmps _ a1.defers _ w1
                    rw [he1.defers]
                    refine evalDefsR_ok hX hG hD ih n pv D' r1 hd1 hb2 fun μ2 w2 r2 k2 => ?_
                    obtain ⟨q1, q2⟩ := aResults_run r2 (he1.mono k2.agree k2.nxt) hr
                    exact ⟨_, q1, μ2, r2, k1.trans k2, rfl, q2⟩
              | exit id => cases hb
end Vai

namespace Vai
open Go Go.RowKit
variable {P : Program} {G : Sym}

/-- A value that is known by name alone, or a plain one. -/
def gv (G : Sym) : Value → Value
  | .chan (some r) => G (r - 4096)
  | v => v
/-- A name, or a plain value. -/
def nameB : Value → Bool
  | .chan (some r) => Nat.ble 4096 r && Nat.blt r 8192
  | v => constOk v
theorem conc_name (G : Sym) (hG : ∀ i, named (G i)) {μ : Mu} (hg : ∀ g, g < 8192 → (μ g).blk = gpl G g ∧ (μ g).sh = 0) {v : Value} (h : nameB v = true) : conc μ v = gv G v := by
  cases v with
  | chan r =>
    cases r with
    | none => rfl
    | some r =>
      simp only [nameB, Bool.and_eq_true] at h
      have h1 := Nat.le_of_ble_eq_true h.1
      have h2 : r < 8192 := by have := h.2; rw [natBlt] at this; simpa using this
      simp only [conc, gv]
      rw [(hg r h2).1]; unfold gpl; rw [if_neg (by omega), decV_enc (hG _)]
  | _ => exact conc_const μ _ h
theorem wf_name {n : Nat} (hn : 8192 ≤ n) {v : Value} (h : nameB v = true) : wf n v := by
  cases v with
  | chan r =>
    cases r with
    | none => trivial
    | some r =>
      simp only [nameB, Bool.and_eq_true] at h
      have h2 : r < 8192 := by have := h.2; rw [natBlt] at this; simpa using this
      show r < n; omega
  | _ => exact wf_const n _ h

/-- A call whose first argument is a whole number known by name alone, and whose answer is known. -/
noncomputable def namedS (F i n : Nat) (v : Value) : CallF := fun f args σ =>
  cond (Nat.beq f F) (match args with
    | ⟨[.chan (some r), .int .i64 (.ofNat m)]⟩ => cond (Nat.beq r i && Nat.beq m n) (some (.ret v, σ)) none
    | _ => none) none
theorem namedS_ok {F i n : Nat} {v : Value} (hG : ∀ i, named (G i)) (hi : 4096 ≤ i) (hi2 : i < 8192) (hv : nameB v = true) (hc : ∀ W, Calls P F #[G (i - 4096), .int .i64 (.ofNat n)] W fun e w' => e = .returned (gv G v) ∧ w' = W) : CallOk P G (namedS F i n v) := by
  intro f args σ r σ' hb μ N0 w h hw
  unfold namedS at hb
  cases hf : Nat.beq f F with
  | false => rw [hf] at hb; cases hb
  | true =>
    rw [hf, cond_true] at hb
    have hfe := Nat.eq_of_beq_eq_true hf
    subst hfe
    split at hb
    · rename_i s m
      cases hm : (Nat.beq s i && Nat.beq m n) with
      | false => rw [hm] at hb; cases hb
      | true =>
        rw [hm, cond_true] at hb
        cases hb
        simp only [Bool.and_eq_true] at hm
        have e1 := Nat.eq_of_beq_eq_true hm.1
        have e2 := Nat.eq_of_beq_eq_true hm.2
        subst e1; subst e2
        have hconc : concA μ ⟨[.chan (some s), .int .i64 (.ofNat m)]⟩ = #[G (s - 4096), .int .i64 (.ofNat m)] := by
          have := conc_name G hG h.glob (v := .chan (some s)) (by simp only [nameB, Bool.and_eq_true]; exact ⟨Nat.ble_eq_true_of_le hi, by rw [natBlt]; simpa using hi2⟩)
          simp only [concA, concL, this]; rfl
        rw [hconc]
        refine (hc w).mono ?_
        rintro en w' ⟨rfl, rfl⟩
        exact ⟨μ, h, Ext.refl _ _ _, by rw [conc_name G hG h.glob hv], wf_name h.gnxt hv⟩
    · cases hb
theorem concA_names {G : Sym} (hG : ∀ i, named (G i)) {args : Array Value} (h : args.toList.all nameB = true) : concA (mu0 G) args = ⟨args.toList.map (gv G)⟩ := by
  rw [concA_map]
  apply Array.ext'
  simp only [Array.toList_map]
  exact List.map_congr_left fun v hv => conc_name G hG (fun g _ => ⟨rfl, rfl⟩) (List.all_eq_true.1 h v hv)
end Vai
