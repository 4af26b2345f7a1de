/- Operations over names: tables, entries, texts. -/
import Derived.Test.YtkjjidmchepjcaaDoorVE
set_option linter.unusedVariables false
set_option linter.unusedSimpArgs false
namespace Vai
open Go Go.RowKit
variable {P : Program} {G : Sym}

/-- Two texts held against each other, byte by byte. -/
noncomputable def cmpT : List UInt8 → List UInt8 → Int :=
  fun a => List.rec (motive := fun _ => List UInt8 → Int) (fun b => List.casesOn b (.ofNat 0) (fun _ _ => .negSucc 0))
    (fun x _ ih b => List.casesOn b (.ofNat 1) (fun y t => cond (Nat.blt x.toNat y.toNat) (.negSucc 0) (cond (Nat.blt y.toNat x.toNat) (.ofNat 1) (ih t)))) a
theorem cmpT_eq : ∀ a b : List UInt8, cmpT a b = Lib.compareBytes a b
  | [], [] => rfl
  | [], _ :: _ => rfl
  | _ :: _, [] => rfl
  | x :: a, y :: b => by
    show cond (Nat.blt x.toNat y.toNat) (Int.negSucc 0) (cond (Nat.blt y.toNat x.toNat) (.ofNat 1) (cmpT a b)) = (if x < y then -1 else if y < x then 1 else Lib.compareBytes a b)
    rw [natBlt, natBlt, cond_decide, cond_decide, cmpT_eq a b]
    rfl
noncomputable def extCmpStr : ExtF := fun fn args σ =>
  cond (fn.origin == "" && fn.name == "internal/bytealg.abigen_runtime_cmpstring") (match args with
    | [.string a, .string b] => some (.val (.int .i64 (cmpT a.data.toList b.data.toList)), σ)
    | _ => none) none
theorem extCmpStr_ok : FnOk P G extCmpStr := by
  intro f fn args σ r μ N0 w hf hbody hb h hw
  unfold extCmpStr at hb
  by_cases hc : fn.origin = "" ∧ fn.name = "internal/bytealg.abigen_runtime_cmpstring"
  · obtain ⟨ho, hn⟩ := hc
    have : (fn.origin == "" && fn.name == "internal/bytealg.abigen_runtime_cmpstring") = true := by
      simp only [Bool.and_eq_true, beq_iff_eq]; exact ⟨ho, hn⟩
    rw [this, cond_true] at hb
    have g1 : Extern.allGenericRows.lookup "internal/bytealg.abigen_runtime_cmpstring" = none := by kernel_rfl
    have g2 : Extern.allTypedRows.lookup "internal/bytealg.abigen_runtime_cmpstring" = none := by kernel_rfl
    have g3 : Extern.allRows.lookup "internal/bytealg.abigen_runtime_cmpstring" = some Extern.BytealgCompare.compare := by kernel_rfl
    have f1 : Extern.find fn = some Extern.BytealgCompare.compare := by
      unfold Extern.find
      simp only [hn, g1, g2, g3]; rfl
    have f2 : Extern.findNext fn = none := noNext (by rw [hn]; kernel_rfl) ho
    have f3 : (fn.name == "runtime.NumGoroutine") = false := by rw [hn]; decide
    split at hb
    · rename_i a b
      cases hb
      have run := run_callFunc_extern (args := ⟨[Value.string a, Value.string b].map (conc μ)⟩) (w := w) hf f3 (by rw [hbody]; rfl) f2 f1
      refine OpOk.pure h ?_ trivial
      rw [run]
      have hi : (Extern.BytealgCompare.compare ⟨[Value.string a, Value.string b].map (conc μ)⟩).run P w = .ok (.int .i64 (cmpT a.data.toList b.data.toList)) w := by
        rw [cmpT_eq]; exact Lib.run_compareString a b w
      rw [hi]
      rfl
    · cases hb
  · have : (fn.origin == "" && fn.name == "internal/bytealg.abigen_runtime_cmpstring") = false := by
      rw [Bool.eq_false_iff]; intro e; apply hc; simpa using e
    rw [this] at hb; cases hb
end Vai

namespace Vai
open Go Go.RowKit
variable {P : Program} {G : Sym} {μ : Mu} {N0 : Nat} {σ τ : Mem} {w : World}

def Glob (G : Sym) (μ : Mu) : Prop := ∀ g, g < 8192 → (μ g).blk = gpl G g ∧ (μ g).sh = 0
/-- Two values that tell of the same one. -/
def SimV (G : Sym) (v u : Value) : Prop := (∀ μ, Glob G μ → conc μ v = conc μ u) ∧ ∀ n, 8192 ≤ n → (wf n v ↔ wf n u)
theorem SimV.refl (v : Value) : SimV G v v := ⟨fun _ _ => rfl, fun _ _ => Iff.rfl⟩
theorem SimV.symm {v u : Value} (h : SimV G v u) : SimV G u v := ⟨fun μ hg => (h.1 μ hg).symm, fun n hn => (h.2 n hn).symm⟩
theorem SimV.names (hG : ∀ i, named (G i)) {v u : Value} (h1 : nameB v = true) (h2 : nameB u = true) (h3 : gv G v = gv G u) : SimV G v u :=
  ⟨fun μ hg => by rw [conc_name G hG hg h1, conc_name G hG hg h2, h3], fun n hn => ⟨fun _ => wf_name hn h2, fun _ => wf_name hn h1⟩⟩
theorem SimV.tuple {l m : List Value} (h : l.length = m.length) (hs : ∀ (i : Nat) (v u : Value), l[i]? = some v → m[i]? = some u → SimV G v u) : SimV G (.tuple ⟨l⟩) (.tuple ⟨m⟩) := by
  have key : ∀ (l m : List Value), l.length = m.length → (∀ (i : Nat) (v u : Value), l[i]? = some v → m[i]? = some u → SimV G v u) → (∀ μ, Glob G μ → concL μ l = concL μ m) ∧ ∀ n, 8192 ≤ n → (wfL n l ↔ wfL n m) := by
    intro l
    induction l with
    | nil => intro m hl _; cases m with
      | nil => exact ⟨fun _ _ => rfl, fun _ _ => Iff.rfl⟩
      | cons u m => simp at hl
    | cons v l ih => intro m hl hs; cases m with
      | nil => simp at hl
      | cons u m =>
        have h0 := hs 0 v u rfl rfl
        obtain ⟨k1, k2⟩ := ih m (by simpa using hl) (fun i a b ha hb => hs (i + 1) a b (by simpa using ha) (by simpa using hb))
        exact ⟨fun μ hg => by simp only [concL]; rw [h0.1 μ hg, k1 μ hg], fun n hn => by simp only [wfL]; rw [h0.2 n hn, k2 n hn]⟩
  obtain ⟨k1, k2⟩ := key l m h hs
  exact ⟨fun μ hg => by simp only [conc, concA]; rw [k1 μ hg], fun n hn => k2 n hn⟩

def SimC (G : Sym) (a b : Option Value) : Prop :=
  match a, b with
  | none, none => True
  | some v, some u => SimV G v u
  | _, _ => False
theorem SimC.refl (a : Option Value) : SimC G a a := by cases a <;> first | trivial | exact SimV.refl _
theorem SimC.symm {a b : Option Value} (h : SimC G a b) : SimC G b a := by cases a <;> cases b <;> first | exact h | exact SimV.symm h
def SimE (G : Sym) (e f : MapEntry) : Prop := SimV G e.key f.key ∧ SimV G e.val f.val ∧ e.born = f.born
theorem SimE.refl (e : MapEntry) : SimE G e e := ⟨.refl _, .refl _, rfl⟩
def SimO (G : Sym) (o p : Ob) : Prop :=
  match o, p with
  | .row r, .row s => r.kind = s.kind ∧ r.elem = s.elem ∧ r.esz = s.esz ∧ r.n = s.n ∧ r.anc = s.anc ∧ ∀ i, SimC G (r.cells.get i) (s.cells.get i)
  | .siter s p, .siter s' p' => SimV G s s' ∧ p = p'
  | .map es c, .map es' c' => c = c' ∧ es.length = es'.length ∧ ∀ (i : Nat) (e f : MapEntry), es[i]? = some e → es'[i]? = some f → SimE G e f
  | .miter a b c d, .miter a' b' c' d' => a = a' ∧ b = b' ∧ c = c' ∧ d = d'
  | .dead, .dead => True
  | _, _ => False
theorem SimO.refl (o : Ob) : SimO G o o := by
  cases o with
  | row r => exact ⟨rfl, rfl, rfl, rfl, rfl, fun _ => .refl _⟩
  | map es c => exact ⟨rfl, rfl, fun i e f h1 h2 => by rw [h1] at h2; cases h2; exact .refl _⟩
  | siter s p => exact ⟨.refl _, rfl⟩
  | miter a b c d => exact ⟨rfl, rfl, rfl, rfl⟩
  | dead => trivial
theorem SimO.symm {o p : Ob} (h : SimO G o p) : SimO G p o := by
  cases o <;> cases p <;> first | exact h.elim | skip
  · obtain ⟨a, b, c, d, e, f⟩ := h; exact ⟨a.symm, b.symm, c.symm, d.symm, e.symm, fun i => (f i).symm⟩
  · obtain ⟨a, b, c⟩ := h
    exact ⟨a.symm, b.symm, fun i e f h1 h2 => by have := c i f e h2 h1; exact ⟨this.1.symm, this.2.1.symm, this.2.2.symm⟩⟩
  · exact ⟨h.1.symm, h.2.symm⟩
  · obtain ⟨a, b, c, d⟩ := h; exact ⟨a.symm, b.symm, c.symm, d.symm⟩
  · trivial
theorem SimO.live {o p : Ob} (h : SimO G o p) (hl : o.live) : p.live := by
  cases o <;> cases p <;> first | exact h.elim | exact hl.elim | trivial
theorem SimO.mut {o p : Ob} (h : SimO G o p) (hl : o.mut) : p.mut := by
  cases o <;> cases p <;> first | exact h.elim | exact hl.elim | trivial | skip
  obtain ⟨a, _⟩ := h
  show _ ≠ _
  rw [← a]; exact hl
theorem SimO.wf {n : Nat} (hn : 8192 ≤ n) {o p : Ob} (h : SimO G o p) (hw : o.wf n) : p.wf n := by
  cases o <;> cases p <;> first | exact h.elim | trivial | skip
  · obtain ⟨a, b, c, d, e, f⟩ := h
    obtain ⟨k1, k2, k3⟩ := hw
    refine ⟨fun i v hv => ?_, by rw [← e]; exact k2, by rw [← d]; exact k3⟩
    have := f i
    rw [hv] at this
    rename_i r s
    cases hr : r.cells.get i with
    | none => rw [hr] at this; exact this.elim
    | some u => rw [hr] at this; exact (this.2 n hn).1 (k1 i u hr)
  · obtain ⟨a, b, c⟩ := h
    rename_i es c1 es' c2
    intro f hf
    obtain ⟨i, hi⟩ := List.getElem?_of_mem hf
    have hlt : i < es.length := by
      rcases Nat.lt_or_ge i es'.length with h1 | h1
      · omega
      · rw [List.getElem?_eq_none h1] at hi; cases hi
    have := c i es[i] f (List.getElem?_eq_getElem hlt) hi
    have hm := hw es[i] (List.getElem_mem hlt)
    exact ⟨(this.1.2 n hn).1 hm.1, (this.2.1.2 n hn).1 hm.2⟩
  · exact (h.1.2 n hn).1 hw
  · obtain ⟨rfl, rfl, rfl, rfl⟩ := h; exact hw
theorem SimO.ok (hg : Glob G μ) {id : Nat} {o p : Ob} (h : SimO G o p) (hk : ObOk μ N0 w id o) : ObOk μ N0 w id p := by
  cases o <;> cases p <;> first | exact h.elim | trivial | skip
  · rename_i r s
    obtain ⟨a, b, c, d, e, f⟩ := h
    obtain ⟨cs, fr, hr⟩ := hk
    refine ⟨cs, fr, by rw [← b]; exact hr.heap, by rw [← d]; exact hr.size, fun i hi => ?_, by rw [← a]; exact hr.old, by rw [← a, ← d]; exact hr.own, by rw [← a]; exact hr.free, by rw [← a, ← c, ← d]; exact hr.cap⟩
    obtain ⟨v, h1, h2⟩ := hr.cell i (by rw [d]; exact hi)
    have := f i
    rw [h1] at this
    cases hs : s.cells.get i with
    | none => rw [hs] at this; exact this.elim
    | some u => rw [hs] at this; exact ⟨u, rfl, by rw [h2, this.1 μ hg]⟩
  · rename_i es c1 es' c2
    obtain ⟨rfl, b, c⟩ := h
    refine ⟨?_, hk.2⟩
    rw [hk.1]
    have : es.map (concE μ) = es'.map (concE μ) := by
      apply List.ext_getElem?
      intro i
      rw [List.getElem?_map, List.getElem?_map]
      cases h1 : es[i]? with
      | none =>
        have : es'[i]? = none := by
          rw [List.getElem?_eq_none_iff] at h1 ⊢; omega
        rw [this]
      | some e =>
        have hlt : i < es'.length := by
          have : i < es.length := by
            rcases Nat.lt_or_ge i es.length with h2 | h2
            · exact h2
            · rw [List.getElem?_eq_none h2] at h1; cases h1
          omega
        rw [List.getElem?_eq_getElem hlt]
        have := c i e es'[i] h1 (List.getElem?_eq_getElem hlt)
        simp only [Option.map_some, concE]
        rw [this.1.1 μ hg, this.2.1.1 μ hg]
        have h3 := this.2.2
        congr 1
        cases e; rename_i e'; simp only at h3 ⊢; subst h3; rfl
    rw [this]
  · obtain ⟨a, rfl⟩ := h
    obtain ⟨⟨bs, k1, k2⟩, k3⟩ := hk
    exact ⟨⟨bs, by rw [← a.1 μ hg]; exact k1, k2⟩, k3⟩
  · obtain ⟨rfl, rfl, rfl, rfl⟩ := h; exact hk
theorem SimO.shares {i j : Nat} {o o' p p' : Ob} (h : SimO G o o') (k : SimO G p p') (hs : Shares μ i j o p) : Shares μ i j o' p' := by
  cases o <;> cases p <;> first | exact hs.elim | skip
  cases o' <;> first | exact h.elim | skip
  cases p' <;> first | exact k.elim | skip
  obtain ⟨a, b, c, d, e, f⟩ := h
  obtain ⟨a', b', c', d', e', f'⟩ := k
  simp only [Shares] at hs ⊢
  rw [← a, ← a', ← e', ← d, ← d']; exact hs

def SimOO (G : Sym) (a b : Option Ob) : Prop :=
  match a, b with
  | none, none => True
  | some o, some p => SimO G o p
  | _, _ => False
/-- Two memories that tell of the same one. -/
structure SimM (G : Sym) (σ τ : Mem) : Prop where
  nxt : σ.nxt = τ.nxt
  ob : ∀ id, SimOO G (σ.objs.get id) (τ.objs.get id)
theorem SimM.refl (σ : Mem) : SimM G σ σ := ⟨rfl, fun id => by cases σ.objs.get id <;> first | trivial | exact SimO.refl _⟩
theorem SimM.symm (h : SimM G σ τ) : SimM G τ σ := ⟨h.nxt.symm, fun id => by
  have := h.ob id
  cases h1 : σ.objs.get id <;> cases h2 : τ.objs.get id <;> rw [h1, h2] at this <;> first | exact this | exact SimO.symm this⟩
theorem SimM.get (h : SimM G σ τ) {id : Nat} {o : Ob} (ho : τ.objs.get id = some o) : ∃ p, σ.objs.get id = some p ∧ SimO G p o := by
  have := h.ob id
  rw [ho] at this
  cases h1 : σ.objs.get id with
  | none => rw [h1] at this; exact this.elim
  | some p => rw [h1] at this; exact ⟨p, rfl, this⟩
theorem Rel.sim (h : SimM G σ τ) (hr : Rel G μ N0 σ w) : Rel G μ N0 τ w where
  glob := hr.glob
  gnxt := by rw [← h.nxt]; exact hr.gnxt
  lim := by rw [← h.nxt]; exact hr.lim
  ob id o ho := by
    obtain ⟨p, hp, hs⟩ := h.get ho
    obtain ⟨k1, k2, k3⟩ := hr.ob id p hp
    exact ⟨by rw [← h.nxt]; exact k1, by rw [← h.nxt]; exact hs.wf hr.gnxt k2, hs.ok hr.glob k3⟩
  sep i j o p hij ho hp l1 l2 hb := by
    obtain ⟨o', ho', s1⟩ := h.get ho
    obtain ⟨p', hp', s2⟩ := h.get hp
    rcases hr.sep i j o' p' hij ho' hp' (s1.symm.live l1) (s2.symm.live l2) hb with k | k
    · exact .inl (s1.shares s2 k)
    · exact .inr (s2.shares s1 k)
  base := hr.base
theorem Ext.sim {μ' : Mu} {σ' τ' : Mem} {w' : World} (h : SimM G σ τ) (h' : SimM G σ' τ') (e : Ext μ σ w μ' σ' w') : Ext μ τ w μ' τ' w' where
  agree := by rw [← h.nxt]; exact e.agree
  nxt := by rw [← h.nxt, ← h'.nxt]; exact e.nxt
  os := e.os
  tape := e.tape
  output := e.output
  size := e.size
  frame b hb hn := e.frame b hb fun id o ho hm => by
    obtain ⟨p, hp, hs⟩ := h.symm.get ho
    exact hn id p hp (hs.symm.mut hm)
  muts id o ho hm := by
    obtain ⟨p, hp, hs⟩ := h'.get ho
    rcases e.muts id p hp (hs.symm.mut hm) with k | ⟨i0, o0, k1, k2, k3⟩
    · exact .inl k
    · obtain ⟨q, hq, hs2⟩ := h.symm.get k1
      exact .inr ⟨i0, q, hq, hs2.symm.mut k2, k3⟩
  lives id o ho hm := by
    obtain ⟨p, hp, hs⟩ := h'.get ho
    rcases e.lives id p hp (hs.symm.live hm) with k | ⟨i0, o0, k1, k2, k3⟩
    · exact .inl k
    · obtain ⟨q, hq, hs2⟩ := h.symm.get k1
      exact .inr ⟨i0, q, hq, hs2.symm.live k2, k3⟩

def SimN (G : Sym) (a b : NX) : Prop :=
  match a, b with
  | .val v, .val u => SimV G v u
  | .skip, .skip => True
  | .panic, .panic => True
  | .enter f a, .enter g b => f = g ∧ a = b
  | _, _ => False
theorem SimN.refl (nx : NX) : SimN G nx nx := by cases nx <;> first | exact SimV.refl _ | trivial | exact ⟨rfl, rfl⟩
/-- What is told of a memory that tells the same is told of this one. -/
theorem OpOk.sim {σ' τ' : Mem} {s : Sem Next} {nx nx' : NX} (h : SimM G σ τ) (ho : OpOk P G μ N0 τ w s (nx, τ')) (h' : SimM G τ' σ') (hn : SimN G nx nx') : OpOk P G μ N0 σ w s (nx', σ') := by
  obtain ⟨μ', w', r, x, k⟩ := ho
  refine ⟨μ', w', r.sim h', Ext.sim h.symm h' x, ?_⟩
  cases nx <;> cases nx' <;> first | exact hn.elim | exact k | skip
  · simp only at k ⊢
    rw [← hn.1 μ' r.glob]
    exact ⟨k.1, by rw [← h'.nxt]; exact (hn.2 _ r.gnxt).1 k.2⟩
  · obtain ⟨rfl, rfl⟩ := hn
    simp only at k ⊢
    rw [← h'.nxt]; exact k
end Vai

namespace Vai
open Go Go.RowKit
variable {P : Program} {G : Sym} {μ : Mu} {N0 : Nat} {σ τ : Mem} {w : World}

/-- What an operation over names says. -/
structure Ent where
  code : Nat
  a : Value
  b : Value
  v : Value
structure NInfo where
  rng : Option (IntKind × Int × Int)
  str : Option (List Value)
  ents : List Ent
structure Names where
  tab : T NInfo
  strs : List (Nat × List Value)
noncomputable def Names.info (N : Names) : Value → Option NInfo
  | .chan (some r) => cond (Nat.ble 4096 r && Nat.blt r 8192) (N.tab.get (r - 4096)) none
  | _ => none

noncomputable def sEq : Value → Value → Bool
  | .chan (some r), .chan (some s) => Nat.beq r s
  | .int k m, .int k' n => Nat.beq (kCode k) (kCode k') && ieq m n
  | .string a, .string b => lEq a.data.toList b.data.toList
  | _, _ => false
theorem kCode_inj {k k' : IntKind} (h : kCode k = kCode k') : k = k' := by
  rw [← kOf_kCode k, ← kOf_kCode k', h]
theorem sEq_eq {a b : Value} (h : sEq a b = true) : a = b := by
  unfold sEq at h
  split at h
  · rw [natBeq] at h; simp only [decide_eq_true_eq] at h; rw [h]
  · rw [natBeq, ieq_eq] at h; simp only [Bool.and_eq_true, decide_eq_true_eq, beq_iff_eq] at h; rw [kCode_inj h.1, h.2]
  · rw [lEq_eq, beq_iff_eq] at h; rw [ba_ext h]
  · cases h

def opC : BinOp → Nat
  | .add => 0
  | .sub => 1
  | .mul => 2
  | .quo => 3
  | .rem => 4
  | .and => 5
  | .or => 6
  | .xor => 7
  | .shl => 8
  | .shr => 9
  | .andNot => 10
  | .eql => 11
  | .neq => 12
  | .lss => 13
  | .leq => 14
  | .gtr => 15
  | .geq => 16
def opOf : Nat → BinOp
  | 0 => .add
  | 1 => .sub
  | 2 => .mul
  | 3 => .quo
  | 4 => .rem
  | 5 => .and
  | 6 => .or
  | 7 => .xor
  | 8 => .shl
  | 9 => .shr
  | 10 => .andNot
  | 11 => .eql
  | 12 => .neq
  | 13 => .lss
  | 14 => .leq
  | 15 => .gtr
  | _ => .geq
theorem opOf_opC (o : BinOp) : opOf (opC o) = o := by cases o <;> rfl
theorem opC_lt (o : BinOp) : opC o < 17 := by cases o <;> decide

/-- What an operation says of two plain values. -/
noncomputable def binV (op : BinOp) (a b : Value) : Option Value :=
  match a, b with
  | .int k a, .int k' b => match op with
    | .shl | .shr => match aShift op k a b with
      | some r => r
      | none => none
    | _ => cond (Nat.beq (kCode k) (kCode k')) (match aInt op k a b with
      | some r => r
      | none => none) none
  | .string a, .string b => aStr op a b
  | _, _ => none
theorem binV_ok {op : BinOp} {a b v : Value} (h : binV op a b = some v) (t : TypeId) (xo yo : Operand) : aBin P σ op t xo yo a b = some (.val v) := by
  unfold binV at h
  split at h
  · rename_i k x k' y
    unfold aBin
    simp only
    cases op <;> simp only at h ⊢
    case shl =>
      cases hs : aShift .shl k x y with
      | none => rw [hs] at h; cases h
      | some o => rw [hs] at h; simp only at h; subst h; rfl
    case shr =>
      cases hs : aShift .shr k x y with
      | none => rw [hs] at h; cases h
      | some o => rw [hs] at h; simp only at h; subst h; rfl
    all_goals
      rw [natBeq, cond_decide] at h
      split at h
      · rename_i hk
        rw [if_pos (kCode_inj hk)]
        split at h
        · rename_i r hr; subst h; rw [hr]
        · cases h
      · cases h
  · rename_i x y
    unfold aBin
    simp only [h]
  · cases h

noncomputable def isV (o : Option Value) (v : Value) : Bool := match o with
  | some u => vEq u v
  | none => false
theorem isV_eq {o : Option Value} {v : Value} (h : isV o v = true) : o = some v := by
  unfold isV at h
  split at h
  · rw [vEq_eq _ _ h]
  · cases h
/-- A byte of a text, by its number; how long a text is; the first bytes of a text. -/
noncomputable def entIx (a b v : Value) : Bool := match a, b, v with
  | .int _ (.ofNat n), .string s, .int .u8 (.ofNat m) => match idxR s.data.toList n with
    | some x => Nat.beq x.toNat m
    | none => false
  | _, _, _ => false
noncomputable def entLn (a v : Value) : Bool := match a, v with
  | .string s, .int .i64 (.ofNat m) => Nat.beq s.data.toList.length m
  | _, _ => false
noncomputable def entPx (a b v : Value) : Bool := match a, b, v with
  | .string s, .int _ (.ofNat n), .string t => Nat.ble n s.data.toList.length && lEq (s.data.toList.take n) t.data.toList
  | _, _, _ => false
/-- Further entries: 70, 71, 72. -/
noncomputable def entX (c : Nat) (a b v : Value) : Bool :=
  cond (Nat.beq c 70) (entIx a b v) (cond (Nat.beq c 71) (entLn a v) (cond (Nat.beq c 72) (entPx a b v) false))
/-- What an entry says of plain values. -/
noncomputable def entV (c : Nat) (a b v : Value) : Bool :=
  cond (Nat.blt c 32) (isV (binV (opOf c) a b) v)
    (cond (Nat.blt c 64) (match a, v with
      | .int _ n, .int k m => Nat.beq (32 + kCode k) c && ieq m (wrapK k n)
      | _, _ => false) (entX c a b v))
structure EntOk (G : Sym) (e : Ent) : Prop where
  a : nameB e.a = true
  b : nameB e.b = true
  v : nameB e.v = true
  ok : entV e.code (gv G e.a) (gv G e.b) (gv G e.v) = true
structure StrOk (G : Sym) (i : Nat) (l : List Value) : Prop where
  nm : l.all nameB = true
  ok : ∃ s : ByteArray, G i = .string s ∧ l.map (gv G) = byteVals s.data.toList
structure InfoOk (G : Sym) (i : Nat) (f : NInfo) : Prop where
  rng : ∀ k lo hi, f.rng = some (k, lo, hi) → ∃ n, G i = .int k n ∧ lo ≤ n ∧ n ≤ hi
  str : ∀ l, f.str = some l → StrOk G i l
  ents : ∀ e ∈ f.ents, EntOk G e
structure NamesOk (G : Sym) (N : Names) : Prop where
  named : ∀ i, named (G i)
  tab : ∀ i f, N.tab.get i = some f → InfoOk G i f
  strs : ∀ p ∈ N.strs, 4096 ≤ p.1 ∧ p.1 < 8192 ∧ StrOk G (p.1 - 4096) p.2

theorem Names.info_ok {N : Names} (h : NamesOk G N) {v : Value} {f : NInfo} (hf : N.info v = some f) : nameB v = true ∧ ∃ r, v = .chan (some r) ∧ gv G v = G (r - 4096) ∧ InfoOk G (r - 4096) f := by
  unfold Names.info at hf
  split at hf
  · rename_i r
    cases hc : (Nat.ble 4096 r && Nat.blt r 8192) with
    | false => rw [hc] at hf; cases hf
    | true =>
      rw [hc, cond_true] at hf
      exact ⟨hc, r, rfl, rfl, h.tab _ _ hf⟩
  · cases hf

noncomputable def entL (l : List Ent) (c : Nat) (a b : Value) : Option Value :=
  List.rec (motive := fun _ => Option Value) none (fun e _ ih => cond (Nat.beq e.code c) (cond (sEq e.a a) (cond (sEq e.b b) (some e.v) ih) ih) ih) l
theorem entL_mem {c : Nat} {a b v : Value} : ∀ {l : List Ent}, entL l c a b = some v → ∃ e ∈ l, e.code = c ∧ e.a = a ∧ e.b = b ∧ e.v = v
  | [], h => by cases h
  | e :: l, h => by
    have h' : cond (Nat.beq e.code c) (cond (sEq e.a a) (cond (sEq e.b b) (some e.v) (entL l c a b)) (entL l c a b)) (entL l c a b) = some v := h
    have rest : entL l c a b = some v → ∃ e' ∈ e :: l, e'.code = c ∧ e'.a = a ∧ e'.b = b ∧ e'.v = v := by
      intro hr
      obtain ⟨e', h1, h2⟩ := entL_mem hr
      exact ⟨e', List.mem_cons_of_mem _ h1, h2⟩
    cases h1 : Nat.beq e.code c with
    | false => rw [h1] at h'; exact rest h'
    | true =>
      rw [h1, cond_true] at h'
      cases h2 : sEq e.a a with
      | false => rw [h2] at h'; exact rest h'
      | true =>
        rw [h2, cond_true] at h'
        cases h3 : sEq e.b b with
        | false => rw [h3] at h'; exact rest h'
        | true =>
          rw [h3, cond_true] at h'; cases h'
          exact ⟨e, List.mem_cons_self, Nat.eq_of_beq_eq_true h1, sEq_eq h2, sEq_eq h3, rfl⟩
noncomputable def Names.find (N : Names) (c : Nat) (a b : Value) : Option Value :=
  match N.info a with
  | some f => entL f.ents c a b
  | none => match N.info b with
    | some f => entL f.ents c a b
    | none => none
theorem Names.find_ok {N : Names} (h : NamesOk G N) {c : Nat} {a b v : Value} (hf : N.find c a b = some v) : nameB a = true ∧ nameB b = true ∧ nameB v = true ∧ entV c (gv G a) (gv G b) (gv G v) = true := by
  unfold Names.find at hf
  have key : ∀ f x, N.info x = some f → entL f.ents c a b = some v → nameB a = true ∧ nameB b = true ∧ nameB v = true ∧ entV c (gv G a) (gv G b) (gv G v) = true := by
    intro f x hx hl
    obtain ⟨_, r, _, _, k⟩ := Names.info_ok h hx
    obtain ⟨e, he, rfl, rfl, rfl, rfl⟩ := entL_mem hl
    have := k.ents e he
    exact ⟨this.a, this.b, this.v, this.ok⟩
  split at hf
  · rename_i f hx; exact key f a hx hf
  · split at hf
    · rename_i f hx; exact key f b hx hf
    · cases hf

/-- A number between two bounds held against another. -/
def cmpI (op : BinOp) (lo hi c : Int) : Option Bool :=
  match op with
  | .eql => cond (ilt c lo || ilt hi c) (some false) none
  | .neq => cond (ilt c lo || ilt hi c) (some true) none
  | .lss => cond (ilt hi c) (some true) (cond (ilt lo c) none (some false))
  | .geq => cond (ilt hi c) (some false) (cond (ilt lo c) none (some true))
  | .gtr => cond (ilt c lo) (some true) (cond (ilt c hi) none (some false))
  | .leq => cond (ilt c lo) (some false) (cond (ilt c hi) none (some true))
  | _ => none
theorem cmpI_ok {op : BinOp} {lo hi c n : Int} {t : Bool} (h : cmpI op lo hi c = some t) (h1 : lo ≤ n) (h2 : n ≤ hi) (k : IntKind) : aInt op k n c = some (some (.bool t)) := by
  unfold cmpI at h
  cases op <;> simp only [ilt_eq, reduceCtorEq] at h <;> unfold aInt <;> simp only [ilt_eq, ieq_eq]
  all_goals
    revert h
    repeat rw [← Bool.decide_or]
    simp only [cond_decide]
    intro h
    repeat' split at h
    all_goals first
      | (cases h; done)
      | (cases h
         congr 3
         first
           | (rw [decide_eq_true_eq]; omega)
           | (rw [decide_eq_false_iff_not]; omega)
           | (simp only [Bool.not_eq_true', decide_eq_false_iff_not]; omega)
           | (simp only [Bool.not_eq_false', decide_eq_true_eq]; omega)
           | (simp only [beq_eq_false_iff_ne]; omega)
           | (simp only [Bool.not_eq_true', beq_eq_false_iff_ne]; omega))
def flipC : BinOp → BinOp
  | .lss => .gtr
  | .gtr => .lss
  | .leq => .geq
  | .geq => .leq
  | o => o
theorem flip_ok {op : BinOp} {lo hi c : Int} {t : Bool} (hc : cmpI (flipC op) lo hi c = some t) (k : IntKind) {n : Int} (h : aInt (flipC op) k n c = some (some (.bool t))) : aInt op k c n = some (some (.bool t)) := by
  cases op <;> simp only [flipC, cmpI, reduceCtorEq] at hc <;> simp only [flipC, aInt] at h ⊢
  all_goals first
    | exact h
    | (rw [← h]; simp only [ieq_eq]; congr 3; first | exact Bool.beq_comm | (congr 1; exact Bool.beq_comm) | (rw [Bool.eq_iff_iff]; simp only [beq_iff_eq, Bool.not_eq_true']; omega))
noncomputable def cmpR (N : Names) (op : BinOp) (a b : Value) : Option Bool :=
  match a, b with
  | .chan (some r), .int k c => match N.info (.chan (some r)) with
    | some ⟨some (k', lo, hi), _, _⟩ => cond (Nat.beq (kCode k) (kCode k')) (cmpI op lo hi c) none
    | _ => none
  | .int k c, .chan (some r) => match N.info (.chan (some r)) with
    | some ⟨some (k', lo, hi), _, _⟩ => cond (Nat.beq (kCode k) (kCode k')) (cmpI (flipC op) lo hi c) none
    | _ => none
  | _, _ => none
theorem cmpR_ok {N : Names} (h : NamesOk G N) {op : BinOp} {a b : Value} {t : Bool} (hc : cmpR N op a b = some t) : nameB a = true ∧ nameB b = true ∧ binV op (gv G a) (gv G b) = some (.bool t) := by
  have nsh : ∀ {o : BinOp} {k : IntKind} {m n : Int}, aInt o k m n = some (some (.bool t)) → binV o (.int k m) (.int k n) = some (.bool t) := by
    intro o k m n hi
    unfold binV
    have hk : Nat.beq (kCode k) (kCode k) = true := by rw [natBeq]; simp
    cases o <;> simp only [hk, cond_true] <;> first | (rw [hi]; done) | (simp only [aInt, reduceCtorEq] at hi)
  unfold cmpR at hc
  split at hc
  · rename_i r k c
    split at hc
    · rename_i k' lo hi s e hinf
      obtain ⟨h1, r', h2, h3, h4⟩ := Names.info_ok h hinf
      rw [natBeq, cond_decide] at hc
      split at hc
      · rename_i hk
        obtain ⟨n, g1, g2, g3⟩ := h4.rng k' lo hi rfl
        have hk' := kCode_inj hk
        subst hk'
        refine ⟨h1, rfl, ?_⟩
        rw [h3, g1]
        exact nsh (cmpI_ok hc g2 g3 k)
      · cases hc
    · cases hc
  · rename_i k c r
    split at hc
    · rename_i k' lo hi s e hinf
      obtain ⟨h1, r', h2, h3, h4⟩ := Names.info_ok h hinf
      rw [natBeq, cond_decide] at hc
      split at hc
      · rename_i hk
        obtain ⟨n, g1, g2, g3⟩ := h4.rng k' lo hi rfl
        have hk' := kCode_inj hk
        subst hk'
        refine ⟨rfl, h1, ?_⟩
        rw [h3, g1]
        exact nsh (flip_ok hc k (cmpI_ok hc g2 g3 k))
      · cases hc
    · cases hc
  · cases hc
end Vai

namespace Vai
open Go Go.RowKit
variable {P : Program} {G : Sym} {μ : Mu} {N0 : Nat} {σ τ : Mem} {w : World}

theorem nameB_named {v : Value} (h : named v) : nameB v = true := by cases v <;> first | rfl | exact h.elim
theorem gv_gv_named {v : Value} (h : named v) : gv G v = v := by cases v <;> first | rfl | exact h.elim
noncomputable def gvr (G : Sym) (v : Value) : Value := cond (nameB v) (gv G v) v
theorem gv_named_of {N : Names} (h : NamesOk G N) {v : Value} (hv : nameB v = true) : nameB (gv G v) = true ∧ gv G (gv G v) = gv G v := by
  cases v with
  | chan r =>
    cases r with
    | none => exact ⟨rfl, rfl⟩
    | some r => exact ⟨nameB_named (h.named _), gv_gv_named (h.named _)⟩
  | _ => exact ⟨hv, rfl⟩
theorem simV_gvr {N : Names} (h : NamesOk G N) (v : Value) : SimV G v (gvr G v) := by
  unfold gvr
  cases hb : nameB v with
  | false => exact .refl _
  | true =>
    rw [cond_true]
    obtain ⟨k1, k2⟩ := gv_named_of h hb
    exact .names h.named hb k1 k2.symm

/-- Bytes of a text. -/
noncomputable def sb (N : Names) (v : Value) : Option (List Value) :=
  match v with
  | .string s => some (byteVals s.data.toList)
  | .chan (some r) => match N.info (.chan (some r)) with
    | some f => f.str
    | none => none
  | _ => none
theorem byteVals_names (l : List UInt8) : (byteVals l).all nameB = true ∧ ∀ G, (byteVals l).map (gv G) = byteVals l := by
  constructor
  · rw [List.all_eq_true]; intro v hv
    obtain ⟨b, _, rfl⟩ := List.mem_map.1 hv
    rfl
  · intro G
    unfold byteVals
    rw [List.map_map]; rfl
theorem byteVals_inj {a b : List UInt8} (h : byteVals a = byteVals b) : a = b := by
  induction a generalizing b with
  | nil => cases b with
    | nil => rfl
    | cons y b => cases h
  | cons x a ih => cases b with
    | nil => cases h
    | cons y b =>
      simp only [byteVals, List.map_cons, List.cons.injEq, Value.int.injEq, true_and] at h
      have h1 : x.toNat = y.toNat := by have := h.1; simp only [Int.ofNat_eq_natCast] at this; omega
      rw [ih h.2, UInt8.toNat_inj.1 h1]
theorem sb_ok {N : Names} (h : NamesOk G N) {v : Value} {l : List Value} (hs : sb N v = some l) : nameB v = true ∧ l.all nameB = true ∧ ∃ s : ByteArray, gv G v = .string s ∧ l.map (gv G) = byteVals s.data.toList := by
  unfold sb at hs
  split at hs
  · rename_i s
    cases hs
    exact ⟨rfl, (byteVals_names _).1, s, rfl, (byteVals_names _).2 G⟩
  · rename_i r
    split at hs
    · rename_i f hf
      obtain ⟨h1, r', _, h3, h4⟩ := Names.info_ok h hf
      obtain ⟨k1, k2⟩ := h4.str l hs
      exact ⟨h1, k1, by rw [h3]; exact k2⟩
    · cases hs
  · cases hs

noncomputable def lsEq : List Value → List Value → Bool :=
  fun a => List.rec (motive := fun _ => List Value → Bool) (fun b => List.casesOn b true (fun _ _ => false))
    (fun x _ ih b => List.casesOn b false (fun y t => cond (sEq x y) (ih t) false)) a
theorem lsEq_eq : ∀ {a b : List Value}, lsEq a b = true → a = b
  | [], [], _ => rfl
  | [], _ :: _, h => by cases h
  | _ :: _, [], h => by cases h
  | x :: a, y :: b, h => by
    have h' : cond (sEq x y) (lsEq a b) false = true := h
    cases hx : sEq x y with
    | false => rw [hx] at h'; cases h'
    | true => rw [hx, cond_true] at h'; rw [sEq_eq hx, lsEq_eq h']
noncomputable def findS (l : List (Nat × List Value)) (bs : List Value) : Option Value :=
  List.rec (motive := fun _ => Option Value) none (fun p _ ih => cond (lsEq p.2 bs) (some (.chan (some p.1))) ih) l
theorem findS_mem {bs : List Value} {v : Value} : ∀ {l : List (Nat × List Value)}, findS l bs = some v → ∃ p ∈ l, p.2 = bs ∧ v = .chan (some p.1)
  | [], h => by cases h
  | p :: l, h => by
    have h' : cond (lsEq p.2 bs) (some (.chan (some p.1))) (findS l bs) = some v := h
    cases hx : lsEq p.2 bs with
    | false =>
      rw [hx] at h'
      obtain ⟨q, h1, h2⟩ := findS_mem h'
      exact ⟨q, List.mem_cons_of_mem _ h1, h2⟩
    | true =>
      rw [hx, cond_true] at h'; cases h'
      exact ⟨p, List.mem_cons_self, lsEq_eq hx, rfl⟩
/-- The text of these bytes. -/
noncomputable def mkS (N : Names) (l : List Value) : Option Value :=
  match bytesOf l with
  | some bs => some (.string ⟨⟨bs⟩⟩)
  | none => findS N.strs l
theorem bytesOf_byteVals : ∀ (l : List UInt8), bytesOf (byteVals l) = some l
  | [] => rfl
  | b :: l => by
    show bytesOf (.int .u8 (.ofNat b.toNat) :: byteVals l) = _
    rw [bytesOf_cons]
    simp only [bytesOf_byteVals l]
    congr 2
    simp
theorem bytesOf_gv {l : List Value} {bs : List UInt8} (h : bytesOf l = some bs) (G : Sym) : l.map (gv G) = l := by
  obtain ⟨_, ns, rfl, _⟩ := bytesOf_spec l bs h
  rw [List.map_map]; rfl
theorem mkS_ok {N : Names} (h : NamesOk G N) {l : List Value} {v : Value} {bs : List UInt8} (hm : mkS N l = some v) (hl : l.map (gv G) = byteVals bs) : nameB v = true ∧ gv G v = .string ⟨⟨bs⟩⟩ := by
  unfold mkS at hm
  split at hm
  · rename_i b2 hb
    cases hm
    rw [bytesOf_gv hb] at hl
    rw [hl, bytesOf_byteVals] at hb
    cases hb
    exact ⟨rfl, rfl⟩
  · obtain ⟨p, h1, h2, rfl⟩ := findS_mem hm
    obtain ⟨k0, k1, k2, s, k3, k4⟩ := h.strs p h1
    refine ⟨?_, ?_⟩
    · simp only [nameB, Bool.and_eq_true]
      exact ⟨Nat.ble_eq_true_of_le k0, by rw [natBlt]; simpa using k1⟩
    · show G (p.1 - 4096) = _
      rw [k3]
      rw [h2, hl] at k4
      have := byteVals_inj k4
      congr 1
      exact ba_ext this.symm

theorem binV_eql {u v : Value} {t : Bool} (h : binV .eql u v = some (.bool t)) : t = true ↔ u = v := by
  unfold binV at h
  split at h
  · rename_i k a k' b
    simp only at h
    rw [natBeq, cond_decide] at h
    split at h
    · rename_i hk
      have hk' := kCode_inj hk
      subst hk'
      simp only [aInt, Option.some.injEq, Value.bool.injEq, ieq_eq] at h
      subst h
      simp
    · cases h
  · rename_i a b
    simp only [aStr, Option.some.injEq, Value.bool.injEq, lEq_eq] at h
    subst h
    simp only [beq_iff_eq, Value.string.injEq]
    exact ⟨fun e => ba_ext e, fun e => by rw [e]⟩
  · cases h
/-- Are two bytes the same? -/
noncomputable def cmpB (N : Names) (x y : Value) : Option Bool :=
  match x, y with
  | .int k m, .int k' n => cond (Nat.beq (kCode k) (kCode k')) (some (ieq m n)) none
  | x, y => cond (sEq x y) (some true) (match N.find 11 x y with
    | some (.bool t) => some t
    | _ => cmpR N .eql x y)
theorem cmpB_ok {N : Names} (h : NamesOk G N) {x y : Value} {t : Bool} (hc : cmpB N x y = some t) : t = true ↔ gv G x = gv G y := by
  unfold cmpB at hc
  split at hc
  · rename_i k m k' n
    rw [natBeq, cond_decide] at hc
    split at hc
    · rename_i hk
      have hk' := kCode_inj hk
      subst hk'
      cases hc
      simp [gv, ieq_eq]
    · cases hc
  · rename_i hno
    clear hno
    cases hs : sEq x y with
    | true => rw [hs, cond_true] at hc; cases hc; rw [sEq_eq hs]; simp
    | false =>
      rw [hs, cond_false] at hc
      split at hc
      · rename_i t' hf
        cases hc
        obtain ⟨_, _, _, k⟩ := Names.find_ok h hf
        refine binV_eql ?_
        have : isV (binV (opOf 11) (gv G x) (gv G y)) (.bool t) = true := by
          unfold entV at k
          exact k
        exact isV_eq this
      · obtain ⟨_, _, k⟩ := cmpR_ok h hc
        exact binV_eql k
noncomputable def cmpL (N : Names) : List Value → List Value → Option Bool :=
  fun a => List.rec (motive := fun _ => List Value → Option Bool) (fun b => List.casesOn b (some true) (fun _ _ => some false))
    (fun x _ ih b => List.casesOn b (some false) (fun y t => match cmpB N x y with
      | some true => ih t
      | some false => some false
      | none => match ih t with
        | some false => some false
        | _ => none)) a
theorem cmpL_ok {N : Names} (h : NamesOk G N) : ∀ {a b : List Value} {t : Bool}, cmpL N a b = some t → (t = true ↔ a.map (gv G) = b.map (gv G))
  | [], [], t, hc => by
    have : some true = some t := hc
    cases this; simp
  | [], _ :: _, t, hc => by
    have : some false = some t := hc
    cases this; simp
  | _ :: _, [], t, hc => by
    have : some false = some t := hc
    cases this; simp
  | x :: a, y :: b, t, hc => by
    have hc' : (match cmpB N x y with
      | some true => cmpL N a b
      | some false => some false
      | none => match cmpL N a b with
        | some false => some false
        | _ => none) = some t := hc
    simp only [List.map_cons, List.cons.injEq]
    cases hx : cmpB N x y with
    | none =>
      rw [hx] at hc'; simp only at hc'
      split at hc'
      · rename_i hl
        cases hc'
        have := cmpL_ok h hl
        simp only [Bool.false_eq_true, false_iff] at this ⊢
        exact fun e => this e.2
      · cases hc'
    | some q =>
      rw [hx] at hc'
      have hq := cmpB_ok h hx
      cases q with
      | true =>
        simp only at hc'
        rw [cmpL_ok h hc']
        exact ⟨fun e => ⟨hq.1 rfl, e⟩, fun e => e.2⟩
      | false =>
        simp only at hc'; cases hc'
        simp only [Bool.false_eq_true, false_iff] at hq ⊢
        exact fun e => hq e.1

/-- An operation over two values of which one is a name. -/
noncomputable def binT (N : Names) (op : BinOp) (a b : Value) : Option Value :=
  match N.find (opC op) a b with
  | some v => some v
  | none => match cmpR N op a b with
    | some t => some (.bool t)
    | none => match sb N a, sb N b with
      | some la, some lb => match op with
        | .add => cond (Nat.ble (la.length + lb.length) maxInt) (mkS N (la ++ lb)) none
        | .eql => match cmpL N la lb with
          | some t => some (.bool t)
          | none => none
        | .neq => match cmpL N la lb with
          | some t => some (.bool (!t))
          | none => none
        | _ => none
      | _, _ => none
theorem binT_ok {N : Names} (h : NamesOk G N) {op : BinOp} {a b v : Value} (hb : binT N op a b = some v) : nameB a = true ∧ nameB b = true ∧ nameB v = true ∧ binV op (gv G a) (gv G b) = some (gv G v) := by
  unfold binT at hb
  split at hb
  · rename_i u hf
    cases hb
    obtain ⟨k1, k2, k3, k4⟩ := Names.find_ok h hf
    refine ⟨k1, k2, k3, ?_⟩
    unfold entV at k4
    have hlt : Nat.blt (opC op) 32 = true := by rw [natBlt]; have := opC_lt op; simp; omega
    rw [hlt, cond_true, opOf_opC] at k4
    exact isV_eq k4
  · split at hb
    · rename_i t hc
      cases hb
      obtain ⟨k1, k2, k3⟩ := cmpR_ok h hc
      exact ⟨k1, k2, rfl, k3⟩
    · split at hb
      · rename_i la lb h1 h2
        obtain ⟨a1, a2, s, a3, a4⟩ := sb_ok h h1
        obtain ⟨b1, b2, s', b3, b4⟩ := sb_ok h h2
        refine ⟨a1, b1, ?_⟩
        rw [a3, b3]
        have ll : la.length = s.data.toList.length := by have := congrArg List.length a4; simpa [byteVals] using this
        have ll' : lb.length = s'.data.toList.length := by have := congrArg List.length b4; simpa [byteVals] using this
        split at hb
        · cases hq : Nat.ble (la.length + lb.length) maxInt with
          | false => rw [hq] at hb; cases hb
          | true =>
            rw [hq, cond_true] at hb
            obtain ⟨k1, k2⟩ := mkS_ok h hb (bs := s.data.toList ++ s'.data.toList) (by rw [List.map_append, a4, b4]; simp [byteVals])
            refine ⟨k1, ?_⟩
            rw [k2]
            unfold binV
            simp only [aStr]
            rw [← ll, ← ll', hq]; rfl
        · split at hb
          · rename_i t hc
            cases hb
            refine ⟨rfl, ?_⟩
            have := cmpL_ok h hc
            rw [a4, b4] at this
            simp only [binV, aStr, gv]
            congr 2
            rw [lEq_eq, Bool.eq_iff_iff, beq_iff_eq, this]
            exact ⟨fun e => by rw [e], byteVals_inj⟩
          · cases hb
        · split at hb
          · rename_i t hc
            cases hb
            refine ⟨rfl, ?_⟩
            have := cmpL_ok h hc
            rw [a4, b4] at this
            simp only [binV, aStr, gv]
            congr 3
            rw [lEq_eq, Bool.eq_iff_iff, beq_iff_eq, this]
            exact ⟨fun e => by rw [e], byteVals_inj⟩
          · cases hb
        · cases hb
      · cases hb
end Vai

namespace Vai
open Go Go.RowKit
variable {P : Program} {G : Sym} {μ : Mu} {N0 : Nat} {σ τ : Mem} {w : World}

/-- A piece of a text. -/
noncomputable def pieceN (N : Names) (l : List Value) (a b : Nat) : Option Value :=
  cond (Nat.ble a b && Nat.ble b l.length) (mkS N ((l.drop a).take (b - a))) none
/-- Operations over names that do not look at the memory. -/
noncomputable def nmOp (P : Program) (N : Names) (op : Op) (vals : List Value) : Option Value :=
  match op, vals with
  | .binOp o _ _ _ _, [a, b] => binT N o a b
  | .convert s d _, [a] => match P.underlying s, P.underlying d with
    | some _, some (.int k) => N.find (32 + kCode k) a (.int .u8 0)
    | some _, some .string => match a with
      | .chan _ => match sb N a with
        | some _ => some a
        | none => none
      | _ => none
    | _, _ => none
  | .index t _ _, [s, i] => match P.underlying t, i with
    | some .string, .int _ (.ofNat j) => match sb N s with
      | some l => idxR l j
      | none => none
    | _, _ => none
  | .slice t _ none none none, [s] => match P.underlying t, sb N s with
    | some .string, some l => pieceN N l 0 l.length
    | _, _ => none
  | .slice t _ (some _) none none, [s, .int _ (.ofNat a)] => match P.underlying t, sb N s with
    | some .string, some l => pieceN N l a l.length
    | _, _ => none
  | .slice t _ none (some _) none, [s, .int _ (.ofNat b)] => match P.underlying t, sb N s with
    | some .string, some l => pieceN N l 0 b
    | _, _ => none
  | .slice t _ (some _) (some _) none, [s, .int _ (.ofNat a), .int _ (.ofNat b)] => match P.underlying t, sb N s with
    | some .string, some l => pieceN N l a b
    | _, _ => none
  | .call c, [s] => match c.callee, c.argTypes[0]? with
    | .builtin .len, some t => match P.underlying t, sb N s with
      | some .string, some l => some (.int .i64 (.ofNat l.length))
      | _, _ => none
    | _, _ => none
  | _, _ => none

theorem gvr_name {v : Value} (h : nameB v = true) : gvr G v = gv G v := by unfold gvr; rw [h, cond_true]
theorem gvr_int {k : IntKind} {n : Int} : gvr G (.int k n) = .int k n := rfl
theorem conv_int (s d : TypeId) (u : TypeDesc) (k k0 : IntKind) (n : Int) (hs : P.underlying s = some u) (hd : P.underlying d = some (.int k)) : aConv P σ s d (.int k0 n) = some (.val (.int k (wrapK k n)), σ) := by
  unfold aConv aPtrConv
  simp only
  unfold aConvert
  rw [hs, hd]
theorem conv_str (s d : TypeId) (u : TypeDesc) (t : ByteArray) (hs : P.underlying s = some u) (hd : P.underlying d = some .string) : aConv P σ s d (.string t) = some (.val (.string t), σ) := by
  unfold aConv aPtrConv
  simp only
  unfold aConvert
  rw [hs, hd]

theorem byteVals_get {l : List Value} {s : ByteArray} (h : l.map (gv G) = byteVals s.data.toList) {j : Nat} {v : Value} (hv : l[j]? = some v) : ∃ b, s.data.toList[j]? = some b ∧ gv G v = .int .u8 (.ofNat b.toNat) := by
  have := congrArg (fun m => m[j]?) h
  simp only [List.getElem?_map, hv, Option.map_some, byteVals] at this
  cases hb : s.data.toList[j]? with
  | none => rw [hb] at this; cases this
  | some b => rw [hb] at this; simp only [Option.map_some, Option.some.injEq] at this; exact ⟨b, rfl, this⟩
theorem byteVals_piece (l : List UInt8) (a n : Nat) : ((byteVals l).drop a).take n = byteVals ((l.drop a).take n) := by
  simp only [byteVals, List.map_drop, List.map_take]
theorem pieceN_ok {N : Names} (h : NamesOk G N) {l : List Value} {s : ByteArray} {a b : Nat} {v : Value} (hp : pieceN N l a b = some v) (hl : l.map (gv G) = byteVals s.data.toList) :
    a ≤ b ∧ b ≤ s.data.toList.length ∧ nameB v = true ∧ gv G v = .string ⟨⟨(s.data.toList.drop a).take (b - a)⟩⟩ := by
  have ll : l.length = s.data.toList.length := by have := congrArg List.length hl; simpa [byteVals] using this
  unfold pieceN at hp
  rw [natBle, natBle] at hp
  by_cases hc : a ≤ b ∧ b ≤ l.length
  · rw [decide_eq_true hc.1, decide_eq_true hc.2] at hp
    simp only [Bool.and_self, cond_true] at hp
    obtain ⟨k1, k2⟩ := mkS_ok h hp (bs := (s.data.toList.drop a).take (b - a)) (by rw [List.map_take, List.map_drop, hl, byteVals_piece])
    exact ⟨hc.1, by rw [← ll]; exact hc.2, k1, k2⟩
  · exfalso
    rcases Classical.not_and_iff_not_or_not.1 hc with h1 | h1 <;> simp [h1] at hp

theorem sliceStr {s : ByteArray} {a b : Nat} {lo hi : Option Value} {t : TypeId} (hu : P.underlying t = some .string) (hab : a ≤ b) (hb : b ≤ s.data.toList.length)
    (hhi : boundOr hi s.data.toList.length s.data.toList.length = some (some b)) (hlo : boundOr lo 0 b = some (some a)) :
    aSlice P σ t (.string s) lo hi none = some (.val (.string ⟨⟨(s.data.toList.drop a).take (b - a)⟩⟩)) := by
  unfold aSlice
  rw [hu]
  simp only [aSliceStr, hhi, hlo]
theorem bound_of {k : IntKind} {i y : Nat} (h : i ≤ y) : boundOr (some (.int k (.ofNat i))) 0 y = some (some i) ∧ ∀ d, boundOr (some (.int k (.ofNat i))) d y = some (some i) := by
  simp only [boundOr, bound, natBle, decide_eq_true h, cond_true, implies_true, and_self]

set_option maxHeartbeats 1000000 in
theorem nmOp_ok {N : Names} (h : NamesOk G N) {X : Extn} {ρ : Operand → Value} {o : Oper} {v : Value} (hb : nmOp P N o.op ((opnds o.op).map ρ) = some v) :
    ∃ u, evalOp0 P X (fun x => gvr G (ρ x)) σ o = some (.val u, σ) ∧ SimV G u v := by
  have fin : ∀ {u}, nameB v = true → u = gv G v → SimV G u v := by
    intro u h1 h2
    obtain ⟨k1, k2⟩ := gv_named_of h h1
    subst h2
    exact (SimV.names h.named h1 k1 k2.symm).symm
  obtain ⟨dst, op, ty, pos, after, guard⟩ := o
  simp only at hb
  unfold nmOp at hb
  cases op <;> simp only [opnds, List.map_cons, List.map_nil] at hb <;> (try (cases hb; done))
  case binOp op t x y t' =>
    obtain ⟨k1, k2, k3, k4⟩ := binT_ok h hb
    refine ⟨gv G v, ?_, fin k3 rfl⟩
    show st σ (aBin P σ op t x y (gvr G (ρ x)) (gvr G (ρ y))) = _
    rw [gvr_name k1, gvr_name k2, binV_ok k4]; rfl
  case convert s d x =>
    cases hs : P.underlying s with
    | none => rw [hs] at hb; cases hb
    | some us =>
      cases hd : P.underlying d with
      | none => rw [hs, hd] at hb; cases hb
      | some ud =>
        rw [hs, hd] at hb
        show ∃ u, aConv P σ s d (gvr G (ρ x)) = some (.val u, σ) ∧ _
        cases ud <;> simp only at hb <;> (try (cases hb; done))
        case int k =>
          obtain ⟨k1, k2, k3, k4⟩ := Names.find_ok h hb
          rw [gvr_name k1]
          have hk := kCode_lt k
          unfold entV at k4
          rw [natBlt, decide_eq_false (by omega), cond_false, natBlt, decide_eq_true (by omega), cond_true] at k4
          split at k4
          · rename_i k0 n k' m e1 e2
            simp only [Bool.and_eq_true, natBeq, decide_eq_true_eq, ieq_eq, beq_iff_eq] at k4
            have : k' = k := kCode_inj (by omega)
            subst this
            rw [e1, conv_int s d us k' k0 n hs hd]
            refine ⟨_, rfl, fin k3 ?_⟩
            rw [e2, k4.2]
          · cases k4
        case string =>
          cases hx : ρ x <;> rw [hx] at hb <;> simp only at hb <;> (try (cases hb; done))
          rename_i r
          split at hb
          · rename_i l hl
            cases hb
            obtain ⟨k1, k2, t, k3, k4⟩ := sb_ok h hl
            rw [gvr_name k1, k3, conv_str s d us t hs hd]
            exact ⟨_, rfl, fin k1 k3.symm⟩
          · cases hb
  case index t x i =>
    show ∃ u, st σ (aIndex P t (gvr G (ρ x)) (gvr G (ρ i))) = some (.val u, σ) ∧ _
    cases hu : P.underlying t with
    | none => rw [hu] at hb; cases hb
    | some ud =>
      rw [hu] at hb
      cases hi : ρ i <;> rw [hi] at hb <;> cases ud <;> (try simp only at hb) <;> (try (cases hb; done))
      rename_i k n
      cases n with
      | negSucc n => cases hb
      | ofNat j =>
        simp only at hb
        cases hsb : sb N (ρ x) with
        | none => rw [hsb] at hb; cases hb
        | some l =>
          rw [hsb] at hb; simp only [idxR_eq] at hb
          obtain ⟨k1, k2, s, k3, k4⟩ := sb_ok h hsb
          obtain ⟨b, h1, h2⟩ := byteVals_get k4 hb
          have hv : nameB v = true := List.all_eq_true.1 k2 v (List.mem_of_getElem? hb)
          rw [gvr_name k1, k3, gvr_int]
          refine ⟨.int .u8 (.ofNat b.toNat), ?_, fin hv h2.symm⟩
          unfold aIndex
          simp only [hu, idxR_eq, h1]
          rfl
  case slice t x lo hi mx =>
    show ∃ u, st σ (aSlice P σ t (gvr G (ρ x)) (lo.map fun x => gvr G (ρ x)) (hi.map fun x => gvr G (ρ x)) (mx.map fun x => gvr G (ρ x))) = some (.val u, σ) ∧ _
    cases mx with
    | some m => cases lo <;> cases hi <;> cases hb
    | none =>
    cases lo with
    | none => cases hi with
      | none =>
        simp only [Option.toList_none, List.append_nil, List.map_nil] at hb
        cases hu : P.underlying t with
        | none => rw [hu] at hb; cases hb
        | some ud =>
          cases hsb : sb N (ρ x) with
          | none => rw [hu, hsb] at hb; cases ud <;> cases hb
          | some l =>
            rw [hu, hsb] at hb
            cases ud <;> simp only at hb <;> (try (cases hb; done))
            obtain ⟨k1, k2, s, k3, k4⟩ := sb_ok h hsb
            have ll : l.length = s.data.toList.length := by have := congrArg List.length k4; simpa [byteVals] using this
            obtain ⟨g1, g2, g3, g4⟩ := pieceN_ok h hb k4
            rw [gvr_name k1, k3]
            rw [ll] at g4 g2
            refine ⟨_, ?_, fin g3 g4.symm⟩
            show st σ (aSlice P σ t (.string s) none none none) = _
            rw [sliceStr hu (Nat.zero_le _) (Nat.le_refl s.data.toList.length) rfl rfl]; rfl
      | some bo =>
        simp only [Option.toList_none, Option.toList_some, List.append_nil, List.nil_append, List.map_cons, List.map_nil] at hb
        cases hv : ρ bo <;> rw [hv] at hb <;> (try (cases hb; done))
        rename_i k n
        cases n with
        | negSucc n => cases hb
        | ofNat b =>
          simp only at hb
          cases hu : P.underlying t with
          | none => rw [hu] at hb; cases hb
          | some ud =>
            cases hsb : sb N (ρ x) with
            | none => rw [hu, hsb] at hb; cases ud <;> cases hb
            | some l =>
              rw [hu, hsb] at hb
              cases ud <;> simp only at hb <;> (try (cases hb; done))
              obtain ⟨k1, k2, s, k3, k4⟩ := sb_ok h hsb
              obtain ⟨g1, g2, g3, g4⟩ := pieceN_ok h hb k4
              rw [gvr_name k1, k3]
              refine ⟨_, ?_, fin g3 g4.symm⟩
              show st σ (aSlice P σ t (.string s) none (some (gvr G (ρ bo))) none) = _
              rw [hv, gvr_int, sliceStr hu g1 g2 ((bound_of g2).2 _) rfl]; rfl
    | some ao => cases hi with
      | none =>
        simp only [Option.toList_none, Option.toList_some, List.append_nil, List.singleton_append, List.map_cons, List.map_nil] at hb
        cases hv : ρ ao <;> rw [hv] at hb <;> (try (cases hb; done))
        rename_i k n
        cases n with
        | negSucc n => cases hb
        | ofNat a =>
          simp only at hb
          cases hu : P.underlying t with
          | none => rw [hu] at hb; cases hb
          | some ud =>
            cases hsb : sb N (ρ x) with
            | none => rw [hu, hsb] at hb; cases ud <;> cases hb
            | some l =>
              rw [hu, hsb] at hb
              cases ud <;> simp only at hb <;> (try (cases hb; done))
              obtain ⟨k1, k2, s, k3, k4⟩ := sb_ok h hsb
              have ll : l.length = s.data.toList.length := by have := congrArg List.length k4; simpa [byteVals] using this
              obtain ⟨g1, g2, g3, g4⟩ := pieceN_ok h hb k4
              rw [gvr_name k1, k3]
              rw [ll] at g4 g2 g1
              refine ⟨_, ?_, fin g3 g4.symm⟩
              show st σ (aSlice P σ t (.string s) (some (gvr G (ρ ao))) none none) = _
              rw [hv, gvr_int, sliceStr hu g1 (Nat.le_refl _) rfl ((bound_of g1).2 _)]; rfl
      | some bo =>
        simp only [Option.toList_none, Option.toList_some, List.append_nil, List.singleton_append, List.map_cons, List.map_nil] at hb
        cases hva : ρ ao <;> rw [hva] at hb <;> (try (cases hb; done))
        rename_i k n
        cases n with
        | negSucc n => cases hb
        | ofNat a =>
          cases hv : ρ bo <;> rw [hv] at hb <;> (try (cases hb; done))
          rename_i k' n
          cases n with
          | negSucc n => cases hb
          | ofNat b =>
            simp only at hb
            cases hu : P.underlying t with
            | none => rw [hu] at hb; cases hb
            | some ud =>
              cases hsb : sb N (ρ x) with
              | none => rw [hu, hsb] at hb; cases ud <;> cases hb
              | some l =>
                rw [hu, hsb] at hb
                cases ud <;> simp only at hb <;> (try (cases hb; done))
                obtain ⟨k1, k2, s, k3, k4⟩ := sb_ok h hsb
                obtain ⟨g1, g2, g3, g4⟩ := pieceN_ok h hb k4
                rw [gvr_name k1, k3]
                refine ⟨_, ?_, fin g3 g4.symm⟩
                show st σ (aSlice P σ t (.string s) (some (gvr G (ρ ao))) (some (gvr G (ρ bo))) none) = _
                rw [hv, hva, gvr_int, gvr_int, sliceStr hu g1 g2 ((bound_of g2).2 _) ((bound_of g1).2 _)]; rfl
  case call c =>
    cases hc : c.callee with
    | value f => rw [hc] at hb; simp only at hb; split at hb <;> (first | (cases hb; done) | skip) <;> rename_i h1 h2 <;> cases h1 <;> rw [hc] at hb <;> cases hb
    | invoke r n => rw [hc] at hb; simp only at hb; split at hb <;> (first | (cases hb; done) | skip) <;> rename_i h1 h2 <;> cases h1 <;> rw [hc] at hb <;> cases hb
    | builtin b =>
      rw [hc] at hb; simp only [List.nil_append] at hb
      cases ha : c.args.toList with
      | nil => rw [ha] at hb; cases hb
      | cons x l =>
        cases l with
        | cons y l => rw [ha] at hb; cases hb
        | nil =>
          rw [ha] at hb
          simp only [List.map_cons, List.map_nil] at hb
          rw [hc] at hb
          cases b <;> (try simp only at hb) <;> (try (cases hb; done))
          cases ht : c.argTypes[0]? with
          | none => rw [ht] at hb; cases hb
          | some t =>
            rw [ht] at hb; (try simp only at hb)
            cases hu : P.underlying t with
            | none => rw [hu] at hb; cases hb
            | some ud =>
              cases hsb : sb N (ρ x) with
              | none => rw [hu, hsb] at hb; cases ud <;> cases hb
              | some l =>
                rw [hu, hsb] at hb
                cases ud <;> simp only at hb <;> (try (cases hb; done))
                cases hb
                obtain ⟨k1, k2, s, k3, k4⟩ := sb_ok h hsb
                have ll : l.length = s.data.toList.length := by have := congrArg List.length k4; simpa [byteVals] using this
                refine ⟨.int .i64 (.ofNat s.data.toList.length), ?_, by rw [ll]; exact .refl _⟩
                unfold evalOp0
                simp only [hc, ha, List.map_cons, List.map_nil, aBuiltin, aLen, ht, hu]
                rw [gvr_name k1, k3]
end Vai

namespace Vai
open Go Go.RowKit
variable {P : Program} {G : Sym} {μ : Mu} {N0 : Nat} {σ τ : Mem} {w : World}

noncomputable def T.mapT {α β : Type} (f : α → β) (t : T α) : T β := T.rec (motive := fun _ => T β) .leaf (fun _ v _ ihl ihr => .node ihl (v.map f) ihr) t
theorem T.get_mapT {α β : Type} (f : α → β) (t : T α) : ∀ k, (t.mapT f).get k = (t.get k).map f := by
  induction t with
  | leaf => intro k; rw [show (T.mapT f T.leaf : T β) = T.leaf from rfl, T.get_leaf, T.get_leaf]; rfl
  | node l v r ihl ihr =>
    intro k
    show (T.node (l.mapT f) (v.map f) (r.mapT f)).get k = _
    rw [T.get_node, T.get_node, ihl, ihr]
    split
    · rfl
    · split <;> rfl

/-- A byte, plain or by name. -/
noncomputable def byteN (N : Names) (v : Value) : Bool :=
  match v with
  | .int .u8 (.ofNat n) => Nat.blt n 256
  | .chan (some r) => match N.info (.chan (some r)) with
    | some ⟨some (.u8, .ofNat _, .ofNat hi), _, _⟩ => Nat.blt hi 256
    | _ => false
  | _ => false
theorem byteN_ok {N : Names} (h : NamesOk G N) {v : Value} (hb : byteN N v = true) : nameB v = true ∧ ∃ b : UInt8, gv G v = .int .u8 (.ofNat b.toNat) := by
  unfold byteN at hb
  split at hb
  · rename_i n
    rw [natBlt, decide_eq_true_eq] at hb
    refine ⟨rfl, UInt8.ofNat n, ?_⟩
    simp only [gv, UInt8.toNat_ofNat']
    congr 2
    omega
  · rename_i r
    split at hb
    · rename_i lo hi s e hinf
      obtain ⟨h1, r', h2, h3, h4⟩ := Names.info_ok h hinf
      obtain ⟨n, g1, g2, g3⟩ := h4.rng _ _ _ rfl
      rw [natBlt, decide_eq_true_eq] at hb
      refine ⟨h1, UInt8.ofNat n.toNat, ?_⟩
      rw [h3, g1]
      simp only [UInt8.toNat_ofNat', Int.ofNat_eq_natCast] at g2 g3 ⊢
      congr 1
      omega
    · cases hb
  · cases hb
noncomputable def allN (p : Value → Bool) (l : List Value) : Bool := List.rec (motive := fun _ => Bool) true (fun v _ ih => cond (p v) ih false) l
theorem allN_eq (p : Value → Bool) : ∀ l : List Value, allN p l = l.all p
  | [] => rfl
  | v :: l => by
    show cond (p v) (allN p l) false = _
    rw [allN_eq p l, List.all_cons]
    cases p v <;> rfl
theorem bytesN_ok {N : Names} (h : NamesOk G N) : ∀ {l : List Value}, allN (byteN N) l = true → (∀ v ∈ l, nameB v = true) ∧ ∃ bs, l.map (gv G) = byteVals bs
  | [], _ => ⟨fun v hv => absurd hv (by simp), [], rfl⟩
  | v :: l, hb => by
    rw [allN_eq, List.all_cons, Bool.and_eq_true, ← allN_eq] at hb
    obtain ⟨k1, b, k2⟩ := byteN_ok h hb.1
    obtain ⟨k3, bs, k4⟩ := bytesN_ok h hb.2
    refine ⟨fun u hu => ?_, b :: bs, ?_⟩
    · rcases List.mem_cons.1 hu with rfl | hu
      · exact k1
      · exact k3 u hu
    · rw [List.map_cons, k2, k4]; rfl

/-- The memory in which one row holds plain values. -/
theorem plainRow {N : Names} (h : NamesOk G N) (hl : σ.nxt ≤ 1099511627776) {id : Nat} {r : Row} (ho : σ.objs.get id = some (.row r)) (hid : id < σ.nxt) :
    ∃ τ : Mem, SimM G σ τ ∧ τ.objs.get id = some (.row { r with cells := r.cells.mapT (gvr G) }) := by
  have get : ∀ j, (σ.objs.set id (.row { r with cells := r.cells.mapT (gvr G) })).get j = if j = id then some (.row { r with cells := r.cells.mapT (gvr G) }) else σ.objs.get j := fun j => T.get_set _ _ _ _ (by omega)
  refine ⟨⟨σ.nxt, σ.objs.set id (.row { r with cells := r.cells.mapT (gvr G) })⟩, ⟨rfl, fun j => ?_⟩, ?_⟩
  · show SimOO G _ ((σ.objs.set id _).get j)
    rw [get]
    by_cases e : j = id
    · rw [if_pos e, e, ho]
      refine ⟨rfl, rfl, rfl, rfl, rfl, fun i => ?_⟩
      simp only
      rw [T.get_mapT]
      cases r.cells.get i with
      | none => trivial
      | some v => exact simV_gvr h v
    · rw [if_neg e]
      cases σ.objs.get j with
      | none => trivial
      | some o => exact SimO.refl o
  · show (σ.objs.set id _).get id = _
    rw [get, if_pos rfl]
theorem getN_mapT (f : Value → Value) (t : T Value) : ∀ (n i : Nat) (l : List Value), getN t n i = some l → getN (t.mapT f) n i = some (l.map f)
  | 0, i, l, h => by rw [getN_zero] at h; cases h; rfl
  | n + 1, i, l, h => by
    rw [getN_succ] at h ⊢
    rw [T.get_mapT]
    cases ht : t.get i with
    | none => rw [ht] at h; cases h
    | some v =>
      rw [ht] at h; simp only at h
      cases hg : getN t n (i + 1) with
      | none => rw [hg] at h; cases h
      | some l' =>
        rw [hg] at h; cases h
        simp only [Option.map_some, getN_mapT f t n (i + 1) l' hg, List.map_cons]
theorem cells_plain {N : Names} (h : NamesOk G N) (hr : Rel G μ N0 σ w) {a : Addr} {n : Nat} {l : List Value} (hc : σ.cells a n = some l) :
    ∃ τ : Mem, SimM G σ τ ∧ τ.cells a n = some (l.map (gvr G)) := by
  unfold Mem.cells at hc
  by_cases h0 : n = 0
  · subst h0
    have : l = [] := by
      have : some [] = some l := hc
      exact (Option.some.inj this).symm
    subst this
    exact ⟨σ, .refl σ, rfl⟩
  · rw [natBeq, decide_eq_false h0, cond_false] at hc
    cases hs : a.spot with
    | some s => rw [hs] at hc; cases hc
    | none =>
      rw [hs] at hc; simp only at hc
      cases ho : σ.objs.get a.block with
      | none => rw [ho] at hc; cases hc
      | some o =>
        rw [ho] at hc
        cases o <;> simp only at hc <;> (try (cases hc; done))
        rename_i r
        obtain ⟨τ, k1, k2⟩ := plainRow h hr.lim ho (hr.ob _ _ ho).1
        refine ⟨τ, k1, ?_⟩
        unfold Mem.cells
        rw [natBeq, decide_eq_false h0, cond_false, hs, k2]
        simp only
        rw [natBle, cond_decide] at hc ⊢
        split at hc
        · rename_i hle
          rw [if_pos hle]
          exact getN_mapT _ _ _ _ _ hc
        · cases hc
theorem map_gvr {l : List Value} (h : ∀ v ∈ l, nameB v = true) : l.map (gvr G) = l.map (gv G) := List.map_congr_left fun v hv => gvr_name (h v hv)

/-- Operations that look at names in the memory. -/
noncomputable def rdMem (P : Program) (N : Names) (op : Op) (vals : List Value) (σ : Mem) : Option Value :=
  match op, vals with
  | .convert s d _, [.slice (some a) len _] => match P.underlying s, P.underlying d with
    | some (.slice e), some .string => match P.underlying e with
      | some (.int .u8) => match σ.cells a len with
        | some l => cond (allN (byteN N) l) (mkS N l) none
        | none => none
      | _ => none
    | _, _ => none
  | _, _ => none
theorem rdMem_ok {N : Names} (h : NamesOk G N) (hr : Rel G μ N0 σ w) {X : Extn} {ρ : Operand → Value} {o : Oper} {v : Value} (hb : rdMem P N o.op ((opnds o.op).map ρ) σ = some v) :
    ∃ τ u, SimM G σ τ ∧ evalOp0 P X (fun x => gvr G (ρ x)) τ o = some (.val u, τ) ∧ SimV G u v := by
  obtain ⟨dst, op, ty, pos, after, guard⟩ := o
  simp only at hb
  unfold rdMem at hb
  cases op <;> simp only [opnds, List.map_cons, List.map_nil] at hb <;> (try (cases hb; done))
  case convert s d x =>
    cases hx : ρ x <;> rw [hx] at hb <;> (try (cases hb; done))
    rename_i a len cap
    cases a with
    | none => cases hb
    | some a =>
      simp only at hb
      cases hs : P.underlying s with
      | none => rw [hs] at hb; cases hb
      | some us =>
        cases hd : P.underlying d with
        | none => rw [hs, hd] at hb; cases us <;> cases hb
        | some ud =>
          rw [hs, hd] at hb
          cases us <;> (try (cases hb; done))
          rename_i e
          cases ud <;> simp only at hb <;> (try (cases hb; done))
          cases hu : P.underlying e with
          | none => rw [hu] at hb; cases hb
          | some de =>
            rw [hu] at hb
            split at hb
            · rename_i heq
              cases heq
              cases hc : σ.cells a len with
              | none => rw [hc] at hb; cases hb
              | some l =>
                rw [hc] at hb; simp only at hb
                cases hal : allN (byteN N) l with
                | false => rw [hal] at hb; cases hb
                | true =>
                  rw [hal, cond_true] at hb
                  obtain ⟨k1, bs, k2⟩ := bytesN_ok h hal
                  obtain ⟨m1, m2⟩ := mkS_ok h hb k2
                  obtain ⟨τ, t1, t2⟩ := cells_plain h hr hc
                  rw [map_gvr k1, k2] at t2
                  obtain ⟨g1, g2⟩ := gv_named_of h m1
                  refine ⟨τ, .string ⟨⟨bs⟩⟩, t1, ?_, by rw [← m2]; exact (SimV.names h.named m1 g1 g2.symm).symm⟩
                  show aConv P τ s d (gvr G (ρ x)) = _
                  rw [hx]
                  show aConv P τ s d (.slice (some a) len cap) = _
                  unfold aConv aPtrConv
                  simp only
                  unfold aConvert
                  rw [hs, hd]
                  simp only [hu, t2, bytesOf_byteVals]
            · cases hb
end Vai

namespace Vai
open Go Go.RowKit
variable {P : Program} {G : Sym} {μ : Mu} {N0 : Nat} {σ τ : Mem} {w : World}

/-- Cells that tell of the same values. -/
def SimL (G : Sym) (l m : List Value) : Prop := l.length = m.length ∧ ∀ i : Nat, SimC G (l[i]?) (m[i]?)
theorem SimL.refl (l : List Value) : SimL G l l := ⟨rfl, fun _ => .refl _⟩
theorem SimL.append {a b c d : List Value} (h : SimL G a b) (k : SimL G c d) : SimL G (a ++ c) (b ++ d) := by
  refine ⟨by rw [List.length_append, List.length_append, h.1, k.1], fun i => ?_⟩
  by_cases hi : i < a.length
  · rw [List.getElem?_append_left hi, List.getElem?_append_left (by rw [← h.1]; exact hi)]; exact h.2 i
  · rw [List.getElem?_append_right (by omega), List.getElem?_append_right (by rw [← h.1]; omega), ← h.1]; exact k.2 _
theorem SimL.tail {v u : Value} {l m : List Value} (h : SimL G (v :: l) (u :: m)) : SimV G v u ∧ SimL G l m :=
  ⟨h.2 0, by simpa using h.1, fun i => by have := h.2 (i + 1); simpa using this⟩
theorem SimL.of_names {N : Names} (h : NamesOk G N) {l m : List Value} (hl : ∀ v ∈ l, nameB v = true) (he : l.map (gv G) = m) : SimL G l m := by
  subst he
  refine ⟨by simp, fun i => ?_⟩
  rw [List.getElem?_map]
  cases hv : l[i]? with
  | none => trivial
  | some v =>
    have hb := hl v (List.mem_of_getElem? hv)
    obtain ⟨k1, k2⟩ := gv_named_of h hb
    exact SimV.names h.named hb k1 k2.symm
theorem SimC.ofList {l m : List Value} (h : SimL G l m) (hl : l.length ≤ 1099511627776) (i : Nat) : SimC G ((T.ofList l 0 .leaf).get i) ((T.ofList m 0 .leaf).get i) := by
  rw [T.get_ofList l 0 .leaf i (by omega), T.get_ofList m 0 .leaf i (by have := h.1; omega)]
  rw [h.1]
  split
  · exact h.2 _
  · exact .refl _

theorem SimM.add {o p : Ob} (h : SimM G σ τ) (ho : SimO G o p) (hl : σ.nxt < 1099511627776) : SimM G (σ.add o) (τ.add p) := by
  refine ⟨by show σ.nxt + 1 = τ.nxt + 1; rw [h.nxt], fun id => ?_⟩
  show SimOO G ((σ.objs.set σ.nxt o).get id) ((τ.objs.set τ.nxt p).get id)
  rw [T.get_set _ _ _ _ hl, T.get_set _ _ _ _ (by rw [← h.nxt]; exact hl), h.nxt]
  split
  · exact ho
  · exact h.ob id
theorem SimM.put {o p : Ob} {id : Nat} (h : SimM G σ τ) (ho : SimO G o p) (hl : id < 1099511627776) : SimM G ⟨σ.nxt, σ.objs.set id o⟩ ⟨τ.nxt, τ.objs.set id p⟩ := by
  refine ⟨h.nxt, fun j => ?_⟩
  show SimOO G ((σ.objs.set id o).get j) ((τ.objs.set id p).get j)
  rw [T.get_set _ _ _ _ hl, T.get_set _ _ _ _ hl]
  split
  · exact ho
  · exact h.ob j
theorem newGrown_sim {σ' : Mem} {elem : TypeId} {esz : Nat} {l m : List Value} {anc : List Nat} {a : Addr} (hs : SimM G σ τ) (h : SimL G l m) (hg : σ.newGrown elem esz l anc = some (a, σ')) :
    ∃ τ', τ.newGrown elem esz m anc = some (a, τ') ∧ SimM G σ' τ' := by
  unfold Mem.newGrown at hg ⊢
  rw [natBlt, natBle] at hg ⊢
  by_cases hc : σ.nxt < 1099511627776 ∧ l.length ≤ 1099511627776
  · rw [decide_eq_true hc.1, decide_eq_true hc.2] at hg
    rw [← hs.nxt, ← h.1, decide_eq_true hc.1, decide_eq_true hc.2]
    simp only [Bool.and_self, cond_true, Option.some.injEq, Prod.mk.injEq] at hg ⊢
    obtain ⟨rfl, rfl⟩ := hg
    exact ⟨_, ⟨rfl, rfl⟩, hs.add ⟨rfl, rfl, rfl, rfl, rfl, fun i => SimC.ofList h hc.2 i⟩ hc.1⟩
  · exfalso
    rcases Classical.not_and_iff_not_or_not.1 hc with h1 | h1 <;> simp [h1] at hg
theorem kill_sim {l : List Nat} (hl : ∀ i ∈ l, i < 1099511627776) (h : SimM G σ τ) : SimM G ⟨σ.nxt, kill l σ.objs⟩ ⟨τ.nxt, kill l τ.objs⟩ := by
  refine ⟨h.nxt, fun j => ?_⟩
  show SimOO G ((kill l σ.objs).get j) ((kill l τ.objs).get j)
  rw [get_kill l _ j hl, get_kill l _ j hl]
  split
  · trivial
  · exact h.ob j
theorem store_sim {σ' : Mem} {a : Addr} {v u : Value} (hs : SimM G σ τ) (hw : ∀ id o, σ.objs.get id = some o → id < σ.nxt ∧ o.wf σ.nxt) (hl : σ.nxt ≤ 1099511627776) (h : SimV G v u) (hu : oneCell u = true) (hg : σ.store a v = some σ') :
    ∃ τ', τ.store a u = some τ' ∧ SimM G σ' τ' := by
  obtain ⟨h1, h2, r, h3, h4, h5, h6⟩ := Mem.store_inv hg
  obtain ⟨p, hp, hsim⟩ := hs.symm.get h3
  cases p <;> (try (exact hsim.elim))
  rename_i s
  obtain ⟨k1, k2, k3, k4, k5, k6⟩ := hsim
  obtain ⟨w1, w2⟩ := hw _ _ h3
  have hanc : ∀ i ∈ r.anc, i < 1099511627776 := fun i hi => by have := w2.2.1 i hi; omega
  have hk := kill_sim hanc hs
  refine ⟨⟨τ.nxt, (kill s.anc τ.objs).set a.block (.row { s with cells := s.cells.set a.off u, anc := [] })⟩, ?_, ?_⟩
  · rw [Mem.store_eq, h1]
    simp only [hp]
    have hlt : Nat.blt a.off s.n = true := by rw [natBlt]; simp only [decide_eq_true_eq]; rw [k4]; exact h5
    have hne : s.kind ≠ .ro := by rw [k1]; exact h4
    rw [hlt, cond_true]
    cases hkk : s.kind with
    | ro => exact absurd hkk hne
    | _ => cases u <;> first | rfl | (cases hu; done)
  · subst h6
    rw [k5]
    refine hk.put (p := .row { s with cells := s.cells.set a.off u, anc := [] }) ⟨k1.symm, k2.symm, k3.symm, k4.symm, rfl, fun i => ?_⟩ (by omega)
    have hoff : a.off < 1099511627776 := by have := w2.2.2; omega
    show SimC G ((r.cells.set a.off v).get i) ((s.cells.set a.off u).get i)
    rw [T.get_set _ _ _ _ hoff, T.get_set _ _ _ _ hoff]
    split
    · exact h
    · exact (k6 i).symm
theorem store_wf {σ' : Mem} {a : Addr} {v : Value} (hw : ∀ id o, σ.objs.get id = some o → id < σ.nxt ∧ o.wf σ.nxt) (hl : σ.nxt ≤ 1099511627776) (hv : wf σ.nxt v) (hg : σ.store a v = some σ') : σ'.nxt = σ.nxt ∧ ∀ id o, σ'.objs.get id = some o → id < σ'.nxt ∧ o.wf σ'.nxt := by
  obtain ⟨h1, h2, r, h3, h4, h5, h6⟩ := Mem.store_inv hg
  obtain ⟨w1, w2⟩ := hw _ _ h3
  have hanc : ∀ i ∈ r.anc, i < 1099511627776 := fun i hi => by have := w2.2.1 i hi; omega
  subst h6
  refine ⟨rfl, fun id o ho => ?_⟩
  have ho' : ((kill r.anc σ.objs).set a.block (.row { r with cells := r.cells.set a.off v, anc := [] })).get id = some o := ho
  rw [T.get_set _ _ _ _ (by omega)] at ho'
  split at ho'
  · rename_i e
    cases ho'
    refine ⟨by rw [e]; exact w1, fun i x hx => ?_, fun j hj => absurd hj (by simp), w2.2.2⟩
    have hx' : (r.cells.set a.off v).get i = some x := hx
    rw [T.get_set _ _ _ _ (by have := w2.2.2; omega)] at hx'
    split at hx'
    · cases hx'; exact hv
    · exact w2.1 i x hx'
  · rw [get_kill r.anc _ id hanc] at ho'
    split at ho'
    · rename_i hm
      cases ho'
      exact ⟨w2.2.1 id hm, trivial⟩
    · exact hw id o ho'
theorem storeL_sim : ∀ {l m : List Value} {σ τ σ' : Mem} {a : Addr} {i : Nat}, SimM G σ τ → (∀ id o, σ.objs.get id = some o → id < σ.nxt ∧ o.wf σ.nxt) → σ.nxt ≤ 1099511627776 → wfL σ.nxt l → SimL G l m → (∀ u ∈ m, oneCell u = true) →
    Mem.storeL l σ a i = some σ' → ∃ τ', Mem.storeL m τ a i = some τ' ∧ SimM G σ' τ'
  | [], [], σ, τ, σ', a, i, hs, _, _, _, _, _, hg => by
    rw [Mem.storeL_nil] at hg; cases hg
    exact ⟨τ, rfl, hs⟩
  | [], _ :: _, _, _, _, _, _, _, _, _, _, h, _, _ => by have := h.1; simp at this
  | _ :: _, [], _, _, _, _, _, _, _, _, _, h, _, _ => by have := h.1; simp at this
  | v :: l, u :: m, σ, τ, σ', a, i, hs, hw, hl, hv, h, hu, hg => by
    rw [Mem.storeL_cons] at hg
    cases h1 : σ.store (a.add i) v with
    | none => rw [h1] at hg; cases hg
    | some σ1 =>
      rw [h1] at hg; simp only at hg
      obtain ⟨e1, e2⟩ := h.tail
      obtain ⟨τ1, k1, k2⟩ := store_sim hs hw hl e1 (hu u List.mem_cons_self) h1
      obtain ⟨n1, n2⟩ := store_wf hw hl hv.1 h1
      obtain ⟨τ', k3, k4⟩ := storeL_sim k2 n2 (by rw [n1]; exact hl) (by rw [n1]; exact hv.2) e2 (fun x hx => hu x (List.mem_cons_of_mem _ hx)) hg
      refine ⟨τ', ?_, k4⟩
      rw [Mem.storeL_cons, k1]; exact k3
end Vai

namespace Vai
open Go Go.RowKit
variable {P : Program} {G : Sym} {μ : Mu} {N0 : Nat} {σ τ : Mem} {w : World}

theorem appDo_sim (hw : ∀ id o, σ.objs.get id = some o → id < σ.nxt ∧ o.wf σ.nxt) (hl : σ.nxt ≤ 1099511627776) {elem : TypeId} {size sLen sCap n : Nat} {base : Option Addr} {l m : List Value} {nx : NX} {σ' : Mem}
    (hv : wfL σ.nxt l) (h : SimL G l m) (hu : ∀ u ∈ m, oneCell u = true) (hg : appDo σ elem size base sLen sCap n l = some (nx, σ')) : ∃ τ', appDo σ elem size base sLen sCap n m = some (nx, τ') ∧ SimM G σ' τ' := by
  unfold appDo at hg ⊢
  cases base with
  | none =>
    simp only at hg ⊢
    cases hc : (Nat.beq sCap 0 && Nat.beq sLen 0) with
    | false => rw [hc] at hg; cases hg
    | true =>
      rw [hc, cond_true] at hg
      rw [cond_true]
      cases hn : Nat.beq n 0 with
      | true => rw [hn, cond_true] at hg; cases hg; rw [cond_true]; exact ⟨_, rfl, .refl _⟩
      | false =>
        rw [hn, cond_false] at hg; rw [cond_false]
        cases hq : σ.newGrown elem size l [] with
        | none => rw [hq] at hg; cases hg
        | some q =>
          obtain ⟨a, σ1⟩ := q
          rw [hq] at hg; cases hg
          obtain ⟨τ', k1, k2⟩ := newGrown_sim (.refl σ) h hq
          rw [k1]; exact ⟨_, rfl, k2⟩
  | some a =>
    simp only at hg ⊢
    cases hc : Nat.blt sCap HALF with
    | true =>
      rw [hc, cond_true] at hg; rw [cond_true]
      cases hle : Nat.ble (sLen + n) sCap with
      | true =>
        rw [hle, cond_true] at hg; rw [cond_true]
        cases hs : a.spot with
        | some s => rw [hs] at hg; cases hg
        | none =>
          rw [hs] at hg; (try simp only at hg); (try simp only)
          cases hq : Mem.storeL l σ (a.add (sLen * size)) 0 with
          | none => rw [hq] at hg; cases hg
          | some σ1 =>
            rw [hq] at hg; cases hg
            obtain ⟨τ', k1, k2⟩ := storeL_sim (.refl σ) hw hl hv h hu hq
            rw [k1]; exact ⟨_, rfl, k2⟩
      | false =>
        rw [hle, cond_false] at hg; rw [cond_false]
        cases ho : σ.cells a (sLen * size) with
        | none => rw [ho] at hg; cases hg
        | some old =>
          rw [ho] at hg; simp only at hg ⊢
          cases hq : σ.newGrown elem size (old ++ l) [] with
          | none => rw [hq] at hg; cases hg
          | some q =>
            obtain ⟨b, σ1⟩ := q
            rw [hq] at hg; cases hg
            obtain ⟨τ', k1, k2⟩ := newGrown_sim (.refl σ) (SimL.append (.refl old) h) hq
            rw [k1]; exact ⟨_, rfl, k2⟩
    | false =>
      rw [hc, cond_false] at hg; rw [cond_false]
      cases hs : a.spot with
      | some s => rw [hs] at hg; cases hg
      | none =>
        cases ho : σ.objs.get a.block with
        | none => rw [hs, ho] at hg; cases hg
        | some ob =>
          rw [hs, ho] at hg
          cases ob <;> simp only at hg <;> (try (cases hg; done))
          rename_i r
          simp only
          cases hk : r.kind <;> rw [hk] at hg <;> simp only at hg <;> (try (cases hg; done))
          simp only
          cases hcc : (Nat.beq r.esz size && (Nat.beq r.elem elem && (Nat.beq a.off ((HUGE - sCap) * size) && (Nat.ble sCap HUGE && Nat.ble (a.off + sLen * size) r.n)))) with
          | false => rw [hcc] at hg; cases hg
          | true =>
            rw [hcc, cond_true] at hg; rw [cond_true]
            cases hn : Nat.beq n 0 with
            | true => rw [hn, cond_true] at hg; cases hg; rw [cond_true]; exact ⟨_, rfl, .refl _⟩
            | false =>
              rw [hn, cond_false] at hg; rw [cond_false]
              cases he : Nat.beq (a.off + sLen * size) r.n with
              | true =>
                rw [he, cond_true] at hg; rw [cond_true]
                cases hcl : σ.cells a (sLen * size) with
                | none => rw [hcl] at hg; cases hg
                | some old =>
                  rw [hcl] at hg; simp only at hg ⊢
                  cases hq : (⟨σ.nxt, σ.objs.set a.block (.row { r with kind := .ro })⟩ : Mem).newGrown r.elem size (old ++ l) (a.block :: r.anc) with
                  | none => rw [hq] at hg; cases hg
                  | some q =>
                    obtain ⟨b, σ1⟩ := q
                    rw [hq] at hg; cases hg
                    obtain ⟨τ', k1, k2⟩ := newGrown_sim (.refl _) (SimL.append (.refl old) h) hq
                    rw [k1]; exact ⟨_, rfl, k2⟩
              | false =>
                rw [he, cond_false] at hg; rw [cond_false]
                cases hle : Nat.ble (a.off + (sLen + n) * size) r.n with
                | false => rw [hle] at hg; cases hg
                | true =>
                  rw [hle, cond_true] at hg; rw [cond_true]
                  cases hq : Mem.storeL l σ (a.add (sLen * size)) 0 with
                  | none => rw [hq] at hg; cases hg
                  | some σ1 =>
                    rw [hq] at hg; cases hg
                    obtain ⟨τ', k1, k2⟩ := storeL_sim (.refl σ) hw hl hv h hu hq
                    rw [k1]; exact ⟨_, rfl, k2⟩

/-- An append of cells that are told, the checks ahead of it. -/
noncomputable def aAppendW (P : Program) (σ : Mem) (sType : TypeId) (s : Value) (n : Nat) (new : List Value) : Option (NX × Mem) :=
  match s with
  | .slice base sLen sCap => match P.underlying sType with
    | some (.slice elem) => match szOf P elem, bytesOfT P elem, zeroOf P elem with
      | some size, some bytes, some z =>
          cond (Nat.blt 0 size && (Nat.beq (vcells z).length size && (Nat.blt 0 bytes && (Nat.ble ((2 * (sLen + n) + 1024) * bytes) 140737488355328 && (Nat.beq new.length (n * size) && Nat.ble (sLen + n) 1099511627776)))))
            (appDo σ elem size base sLen sCap n new) none
      | _, _, _ => none
    | _ => none
  | _ => none
theorem oneCellL_bytes : ∀ l : List UInt8, oneCellL (byteVals l) = true
  | [] => rfl
  | b :: l => oneCellL_bytes l
theorem oneCell_bytes (l : List UInt8) : ∀ u ∈ byteVals l, oneCell u = true := by
  intro u hu
  obtain ⟨b, _, rfl⟩ := List.mem_map.1 hu
  rfl
theorem aAppendW_sim (hw : ∀ id o, σ.objs.get id = some o → id < σ.nxt ∧ o.wf σ.nxt) (hl : σ.nxt ≤ 1099511627776) {argTypes : Array TypeId} {sType xt : TypeId} {s : Value} {t : ByteArray} {l : List Value} {nx : NX} {σ' : Mem}
    (ha : argTypes[0]? = some sType) (hx : argTypes[1]? = some xt) (hu : P.underlying xt = some .string) (hv : wfL σ.nxt l) (h : SimL G l (byteVals t.data.toList)) (hg : aAppendW P σ sType s l.length l = some (nx, σ')) :
    ∃ τ', aAppend P σ argTypes s (.string t) = some (nx, τ') ∧ SimM G σ' τ' := by
  unfold aAppendW at hg
  split at hg
  · rename_i base sLen sCap
    cases hd : P.underlying sType with
    | none => rw [hd] at hg; cases hg
    | some d =>
      rw [hd] at hg
      cases d <;> simp only at hg <;> (try (cases hg; done))
      rename_i elem
      cases h1 : szOf P elem with
      | none => rw [h1] at hg; cases hg
      | some size =>
        cases h2 : bytesOfT P elem with
        | none => rw [h1, h2] at hg; cases hg
        | some bytes =>
          cases h3 : zeroOf P elem with
          | none => rw [h1, h2, h3] at hg; cases hg
          | some z =>
            rw [h1, h2, h3] at hg; simp only at hg
            have hlen : l.length = t.data.toList.length := by rw [h.1]; simp [byteVals]
            have hsrc : appSrc P σ xt size z (.string t) = some (l.length, byteVals t.data.toList) := by
              unfold appSrc
              rw [hu]
              simp only [srcLen, srcCells, List.take_length, hlen]
            generalize hcc : (Nat.blt 0 size && (Nat.beq (vcells z).length size && (Nat.blt 0 bytes && (Nat.ble ((2 * (sLen + l.length) + 1024) * bytes) 140737488355328 && (Nat.beq l.length (l.length * size) && Nat.ble (sLen + l.length) 1099511627776))))) = cc at hg
            cases cc with
            | false => cases hg
            | true =>
              rw [cond_true] at hg
              obtain ⟨τ', k1, k2⟩ := appDo_sim hw hl hv h (oneCell_bytes _) hg
              refine ⟨τ', ?_, k2⟩
              unfold aAppend
              simp only [ha, hx, hd, h1, h2, h3, hsrc, oneCellL_bytes]
              have hbl : (byteVals t.data.toList).length = l.length := by rw [hlen]; simp [byteVals]
              rw [hbl, Bool.and_true, hcc, cond_true]
              exact k1
  · cases hg

noncomputable def effOp (P : Program) (N : Names) (op : Op) (vals : List Value) (σ : Mem) : Option (NX × Mem) :=
  match op, vals with
  | .convert s d _, [.chan r] => match P.underlying s, P.underlying d with
    | some _, some (.slice e) => match P.underlying e, sb N (.chan r) with
      | some (.int .u8), some l => cond (Nat.ble l.length 1048576) (match σ.newGrown e 1 l [] with
        | some (a, σ') => some (.val (.slice (some a) l.length HUGE), σ')
        | none => none) none
      | _, _ => none
    | _, _ => none
  | .call c, [s, .chan r] => match c.callee, c.argTypes[0]?, c.argTypes[1]? with
    | .builtin .append, some sType, some xt => match P.underlying xt, sb N (.chan r) with
      | some .string, some l => aAppendW P σ sType s l.length l
      | _, _ => none
    | .builtin .copy, some sType, some _ => match s, P.underlying sType, sb N (.chan r) with
      | .slice (some a) dLen _, some (.slice elem), some l => match szOf P elem with
        | some _ => match Mem.storeL (l.take (cond (Nat.ble l.length dLen) l.length dLen)) σ a 0 with
          | some σ' => some (.val (.int .i64 (.ofNat (cond (Nat.ble l.length dLen) l.length dLen))), σ')
          | none => none
        | none => none
      | _, _, _ => none
    | _, _, _ => none
  | .range t _, [.chan r] => match P.underlying t, sb N (.chan r) with
    | some .string, some _ => cond (Nat.blt σ.nxt 1099511627776) (some (.val (.pointer (some ⟨σ.nxt, 0, none⟩)), σ.add (.siter (.chan r) 0))) none
    | _, _ => none
  | .next _ true, [.pointer (some ⟨q, 0, none⟩)] => match σ.objs.get q with
    | some (.siter (.chan r) pos) => match sb N (.chan r) with
      | some l => cond (Nat.blt pos l.length) (match idxR l pos with
        | some (.int .u8 (.ofNat b)) => cond (Nat.blt b 128) (some (.val (.tuple #[.bool true, .int .i64 (.ofNat pos), .int .i32 (.ofNat b)]), ⟨σ.nxt, σ.objs.set q (.siter (.chan r) (pos + 1))⟩)) none
        | some (.chan b) => match N.info (.chan b), N.find (32 + kCode .i32) (.chan b) (.int .u8 0) with
          | some ⟨some (.u8, .ofNat _, .ofNat hi), _, _⟩, some v => cond (Nat.blt hi 128) (some (.val (.tuple #[.bool true, .int .i64 (.ofNat pos), v]), ⟨σ.nxt, σ.objs.set q (.siter (.chan r) (pos + 1))⟩)) none
          | _, _ => none
        | _ => none) (some (.val (.tuple #[.bool false]), σ))
      | none => none
    | _ => none
  | _, _ => none
end Vai

namespace Vai
open Go Go.RowKit
variable {P : Program} {G : Sym} {μ : Mu} {N0 : Nat} {σ τ : Mem} {w : World}

theorem gvr_slice (a : Option Addr) (l c : Nat) : gvr G (.slice a l c) = .slice a l c := by cases a <;> rfl
theorem gvr_ptr (a : Option Addr) : gvr G (.pointer a) = .pointer a := by cases a <;> rfl
theorem wfL_names {n : Nat} (hn : 8192 ≤ n) {l : List Value} (h : l.all nameB = true) : wfL n l :=
  (wfL_iff _ _).2 fun v hv => wf_name hn (List.all_eq_true.1 h v hv)
theorem sim_str {N : Names} (h : NamesOk G N) {v : Value} {s : ByteArray} (hv : nameB v = true) (hg : gv G v = .string s) : SimV G v (.string s) :=
  .names h.named hv rfl hg
theorem putOb_sim {q : Nat} {o p : Ob} (ho : SimO G o p) (hq : q < 1099511627776) (σ : Mem) : SimM G ⟨σ.nxt, σ.objs.set q o⟩ ⟨σ.nxt, σ.objs.set q p⟩ :=
  (SimM.refl σ).put ho hq

set_option maxHeartbeats 2000000 in
theorem effOp_ok {N : Names} (h : NamesOk G N) (hr : Rel G μ N0 σ w) {X : Extn} {ρ : Operand → Value} {o : Oper} {nx : NX} {σ' : Mem} (hb : effOp P N o.op ((opnds o.op).map ρ) σ = some (nx, σ')) :
    ∃ τ u τ', SimM G σ τ ∧ evalOp0 P X (fun x => gvr G (ρ x)) τ o = some (u, τ') ∧ SimM G τ' σ' ∧ SimN G u nx := by
  have hw : ∀ id o, σ.objs.get id = some o → id < σ.nxt ∧ o.wf σ.nxt := fun id o ho => ⟨(hr.ob id o ho).1, (hr.ob id o ho).2.1⟩
  obtain ⟨dst, op, ty, pos, after, guard⟩ := o
  simp only at hb
  unfold effOp at hb
  cases op <;> simp only [opnds, List.map_cons, List.map_nil] at hb <;> (try (cases hb; done))
  case convert s d x =>
    cases hx : ρ x <;> rw [hx] at hb <;> (try (cases hb; done))
    rename_i r
    simp only at hb
    cases hs : P.underlying s with
    | none => rw [hs] at hb; cases hb
    | some us =>
      cases hd : P.underlying d with
      | none => rw [hs, hd] at hb; cases hb
      | some ud =>
        rw [hs, hd] at hb
        cases ud <;> (try (cases hb; done))
        rename_i e
        simp only at hb
        cases hu : P.underlying e with
        | none => rw [hu] at hb; cases hb
        | some de =>
          cases hsb : sb N (.chan r) with
          | none =>
            rw [hu, hsb] at hb
            exfalso
            split at hb
            · rename_i hh; cases hh
            · cases hb
          | some l =>
            rw [hu, hsb] at hb
            split at hb
            · rename_i l' heq heq2
              cases heq; cases heq2
              obtain ⟨k1, k2, t, k3, k4⟩ := sb_ok h hsb
              have hlen : l.length = t.data.toList.length := by have := congrArg List.length k4; simpa [byteVals] using this
              cases hle : Nat.ble l.length 1048576 with
              | false => rw [hle] at hb; cases hb
              | true =>
                rw [hle, cond_true] at hb
                cases hq : σ.newGrown e 1 l [] with
                | none => rw [hq] at hb; cases hb
                | some q =>
                  obtain ⟨a, σ1⟩ := q
                  rw [hq] at hb; cases hb
                  obtain ⟨τ', m1, m2⟩ := newGrown_sim (.refl σ) (SimL.of_names h (List.all_eq_true.1 k2) k4) hq
                  refine ⟨σ, .val (.slice (some a) t.data.toList.length HUGE), τ', .refl σ, ?_, m2.symm, by rw [hlen]; exact SimV.refl _⟩
                  show aConv P σ s d (gvr G (ρ x)) = _
                  rw [hx, gvr_name k1, k3]
                  unfold aConv aPtrConv
                  simp only
                  unfold aConvert
                  rw [hs, hd]
                  simp only [hu]
                  rw [← hlen, hle, cond_true, m1]
            · cases hb
  case range t x =>
    cases hx : ρ x <;> rw [hx] at hb <;> (try (cases hb; done))
    rename_i r
    simp only at hb
    cases hu : P.underlying t with
    | none => rw [hu] at hb; cases hb
    | some ud =>
      cases hsb : sb N (.chan r) with
      | none => rw [hu, hsb] at hb; cases ud <;> cases hb
      | some l =>
        rw [hu, hsb] at hb
        cases ud <;> simp only at hb <;> (try (cases hb; done))
        obtain ⟨k1, k2, s, k3, k4⟩ := sb_ok h hsb
        cases hlt : Nat.blt σ.nxt 1099511627776 with
        | false => rw [hlt] at hb; cases hb
        | true =>
          rw [hlt, cond_true] at hb; cases hb
          refine ⟨σ, .val (.pointer (some ⟨σ.nxt, 0, none⟩)), σ.add (.siter (.string s) 0), .refl σ, ?_, ?_, SimV.refl _⟩
          · show aRange P σ t (gvr G (ρ x)) = _
            rw [hx, gvr_name k1, k3]
            unfold aRange
            rw [hlt, cond_true, hu]
          · refine (SimM.refl σ).add (o := .siter (.string s) 0) (p := .siter (.chan r) 0) ⟨(sim_str h k1 k3).symm, rfl⟩ ?_
            rw [natBlt, decide_eq_true_eq] at hlt; exact hlt
  case next x isS =>
    cases isS with
    | false => cases hx : ρ x <;> rw [hx] at hb <;> cases hb
    | true =>
      cases hx : ρ x <;> rw [hx] at hb <;> (try (cases hb; done))
      rename_i a
      cases a with
      | none => cases hb
      | some a =>
        obtain ⟨q, off, spot⟩ := a
        cases off with
        | succ n => cases hb
        | zero =>
        cases spot with
        | some s => cases hb
        | none =>
        simp only at hb
        cases ho : σ.objs.get q with
        | none => rw [ho] at hb; cases hb
        | some ob =>
          rw [ho] at hb
          cases ob <;> (try simp only at hb) <;> (try (cases hb; done))
          rename_i sv ps
          cases sv <;> (try simp only at hb) <;> (try (cases hb; done))
          rename_i r
          cases hsb : sb N (.chan r) with
          | none => rw [hsb] at hb; cases hb
          | some l =>
            rw [hsb] at hb; (try simp only [idxR_eq] at hb)
            obtain ⟨k1, k2, s, k3, k4⟩ := sb_ok h hsb
            have hlen : l.length = s.data.toList.length := by have := congrArg List.length k4; simpa [byteVals] using this
            have hq : q < 1099511627776 := by have := (hw q _ ho).1; have := hr.lim; omega
            have hso : SimO G (.siter (.chan r) ps) (.siter (.string s) ps) := ⟨sim_str h k1 k3, rfl⟩
            have hso' : ∀ p', SimO G (.siter (.string s) p') (.siter (.chan r) p') := fun p' => ⟨(sim_str h k1 k3).symm, rfl⟩
            have hτ : SimM G σ ⟨σ.nxt, σ.objs.set q (.siter (.string s) ps)⟩ := by
              refine ⟨rfl, fun j => ?_⟩
              show SimOO G _ ((σ.objs.set q _).get j)
              rw [T.get_set _ _ _ _ hq]
              split
              · rename_i e; rw [e, ho]; exact hso
              · cases σ.objs.get j with
                | none => trivial
                | some o => exact SimO.refl o
            have hget : (σ.objs.set q (.siter (.string s) ps)).get q = some (.siter (.string s) ps) := by rw [T.get_set _ _ _ _ hq, if_pos rfl]
            have hset : ∀ (p' : Nat), SimM G ⟨σ.nxt, (σ.objs.set q (.siter (.string s) ps)).set q (.siter (.string s) p')⟩ ⟨σ.nxt, σ.objs.set q (.siter (.chan r) p')⟩ := by
              intro p'
              refine ⟨rfl, fun j => ?_⟩
              show SimOO G (((σ.objs.set q _).set q _).get j) ((σ.objs.set q _).get j)
              rw [T.get_set _ _ _ _ hq, T.get_set _ _ _ _ hq, T.get_set _ _ _ _ hq]
              split
              · exact hso' p'
              · cases σ.objs.get j with
                | none => trivial
                | some o => exact SimO.refl o
            have goal : evalOp0 P X (fun x => gvr G (ρ x)) ⟨σ.nxt, σ.objs.set q (.siter (.string s) ps)⟩ ⟨dst, .next x true, ty, pos, after, guard⟩ = aNext ⟨σ.nxt, σ.objs.set q (.siter (.string s) ps)⟩ (.pointer (some ⟨q, 0, none⟩)) true := by
              show aNext _ (gvr G (ρ x)) true = _
              rw [hx, gvr_ptr]
            rw [natBlt, hlen, cond_decide] at hb
            by_cases hp : ps < s.data.toList.length
            · rw [if_pos hp] at hb
              have step : ∀ (b : UInt8) (v : Value), s.data.toList[ps]? = some b → b.toNat < 128 → SimV G (.int .i32 (.ofNat b.toNat)) v → nx = .val (.tuple #[.bool true, .int .i64 (.ofNat ps), v]) → σ' = ⟨σ.nxt, σ.objs.set q (.siter (.chan r) (ps + 1))⟩ →
                  ∃ τ u τ', SimM G σ τ ∧ evalOp0 P X (fun x => gvr G (ρ x)) τ ⟨dst, .next x true, ty, pos, after, guard⟩ = some (u, τ') ∧ SimM G τ' σ' ∧ SimN G u nx := by
                intro b v hbb h8 hsv hnx hσ
                subst hnx; subst hσ
                refine ⟨_, .val (.tuple #[.bool true, .int .i64 (.ofNat ps), .int .i32 (.ofNat b.toNat)]), _, hτ, ?_, hset (ps + 1), ?_⟩
                · rw [goal]
                  unfold aNext
                  simp only [hget, idxR_eq, hbb]
                  rw [natBlt, decide_eq_true hp, cond_true, natBlt, decide_eq_true h8, cond_true]
                · refine SimV.tuple (l := [.bool true, .int .i64 (.ofNat ps), .int .i32 (.ofNat b.toNat)]) (m := [.bool true, .int .i64 (.ofNat ps), v]) rfl ?_
                  intro i x y hx hy
                  rcases i with _ | _ | _ | i
                  · cases hx; cases hy; exact .refl _
                  · cases hx; cases hy; exact .refl _
                  · cases hx; cases hy; exact hsv
                  · simp at hx
              cases hv : l[ps]? with
              | none => rw [hv] at hb; cases hb
              | some v =>
                rw [hv] at hb
                obtain ⟨b, g1, g2⟩ := byteVals_get k4 hv
                split at hb
                · rename_i n heq
                  cases heq
                  rw [natBlt, cond_decide] at hb
                  split at hb
                  · rename_i hn
                    cases hb
                    simp only [gv, Value.int.injEq, true_and, Int.ofNat_eq_natCast] at g2
                    have hn2 : n = b.toNat := by omega
                    subst hn2
                    exact step b _ g1 hn (.refl _) rfl rfl
                  · cases hb
                · rename_i cb heq
                  cases heq
                  split at hb
                  · rename_i lo hi st en rv hinf hfind
                    rw [natBlt, cond_decide] at hb
                    split at hb
                    · rename_i hhi
                      cases hb
                      obtain ⟨i1, r', i2, i3, i4⟩ := Names.info_ok h hinf
                      obtain ⟨n, j1, j2, j3⟩ := i4.rng _ _ _ rfl
                      rw [i3, j1] at g2
                      simp only [Value.int.injEq, true_and] at g2
                      have h8 : b.toNat < 128 := by rw [g2] at j3; simp only [Int.ofNat_eq_natCast] at j3; omega
                      obtain ⟨f1, f2, f3, f4⟩ := Names.find_ok h hfind
                      refine step b rv g1 h8 ?_ rfl rfl
                      refine (SimV.names h.named f3 rfl ?_).symm
                      unfold entV at f4
                      rw [i3, j1] at f4
                      rw [natBlt, decide_eq_false (by decide), cond_false, natBlt, decide_eq_true (by decide), cond_true] at f4
                      split at f4
                      · rename_i k0 m0 k' m e1 e2
                        cases e1
                        simp only [Bool.and_eq_true, natBeq, decide_eq_true_eq, ieq_eq, beq_iff_eq] at f4
                        have hk : k' = .i32 := kCode_inj (by omega)
                        subst hk
                        rw [e2, f4.2, g2]
                        show Value.int .i32 (wrapK .i32 (.ofNat b.toNat)) = .int .i32 (.ofNat b.toNat)
                        congr 1
                        unfold wrapK
                        have hm : umod (modK .i32) (.ofNat b.toNat) = b.toNat := by
                          show b.toNat % 4294967296 = _
                          omega
                        rw [hm]
                        have hle : Nat.ble b.toNat (posMax .i32) = true := by rw [natBle, decide_eq_true_eq]; show _ ≤ 2147483647; omega
                        rw [hle]; rfl
                      · cases f4
                    · cases hb
                  · cases hb
                · cases hb
            · rw [if_neg hp] at hb
              cases hb
              refine ⟨_, .val (.tuple #[.bool false]), _, hτ, ?_, hτ.symm, SimV.refl _⟩
              rw [goal]
              unfold aNext
              simp only [hget]
              rw [natBlt, decide_eq_false hp, cond_false]
  case call c =>
    cases hc : c.callee with
    | value f => rw [hc] at hb; simp only at hb; split at hb <;> (first | (cases hb; done) | skip) <;> rename_i h1 h2 <;> cases h1 <;> rw [hc] at hb <;> cases hb
    | invoke r n => rw [hc] at hb; simp only at hb; split at hb <;> (first | (cases hb; done) | skip) <;> rename_i h1 h2 <;> cases h1 <;> rw [hc] at hb <;> cases hb
    | builtin b =>
      rw [hc] at hb; simp only [List.nil_append] at hb
      cases ha : c.args.toList with
      | nil => rw [ha] at hb; cases hb
      | cons x l =>
      cases l with
      | nil => rw [ha] at hb; cases hb
      | cons y l =>
      cases l with
      | cons z l => rw [ha] at hb; simp only [List.map_cons] at hb; exfalso; cases hy : ρ y <;> rw [hy] at hb <;> exact nomatch hb
      | nil =>
        rw [ha] at hb
        simp only [List.map_cons, List.map_nil] at hb
        cases hy : ρ y <;> rw [hy] at hb <;> (try (cases hb; done))
        rename_i r
        simp only [hc] at hb
        cases b <;> (try simp only at hb) <;> (try (cases hb; done))
        case append =>
          cases h0 : c.argTypes[0]? with
          | none => rw [h0] at hb; cases hb
          | some sType =>
            cases h1 : c.argTypes[1]? with
            | none => rw [h0, h1] at hb; cases hb
            | some xt =>
              rw [h0, h1] at hb; simp only at hb
              cases hu : P.underlying xt with
              | none => rw [hu] at hb; cases hb
              | some ud =>
                cases hsb : sb N (.chan r) with
                | none => rw [hu, hsb] at hb; cases ud <;> cases hb
                | some l =>
                  rw [hu, hsb] at hb
                  cases ud <;> simp only at hb <;> (try (cases hb; done))
                  obtain ⟨k1, k2, t, k3, k4⟩ := sb_ok h hsb
                  obtain ⟨τ', m1, m2⟩ := aAppendW_sim hw hr.lim h0 h1 hu (wfL_names hr.gnxt k2) (SimL.of_names h (List.all_eq_true.1 k2) k4) hb
                  have hsl : gvr G (ρ x) = ρ x := by
                    cases hxx : ρ x <;> rw [hxx] at hb <;> first | (exact gvr_slice _ _ _) | cases hb
                  refine ⟨σ, nx, τ', .refl σ, ?_, m2.symm, .refl nx⟩
                  unfold evalOp0
                  simp only [hc, ha, List.map_cons, List.map_nil, aBuiltin, hy]
                  rw [hsl, gvr_name k1, k3]; exact m1
        case copy =>
          cases h0 : c.argTypes[0]? with
          | none => rw [h0] at hb; cases hb
          | some sType =>
            cases h1 : c.argTypes[1]? with
            | none => rw [h0, h1] at hb; cases hb
            | some xt =>
              rw [h0, h1] at hb; simp only at hb
              cases hxx : ρ x <;> rw [hxx] at hb <;> (try (cases hb; done))
              rename_i a dLen dCap
              cases a with
              | none => cases hb
              | some a =>
                (try simp only at hb)
                cases hu : P.underlying sType with
                | none => rw [hu] at hb; cases hb
                | some ud =>
                  cases hsb : sb N (.chan r) with
                  | none => rw [hu, hsb] at hb; cases ud <;> cases hb
                  | some l =>
                    rw [hu, hsb] at hb
                    cases ud <;> simp only at hb <;> (try (cases hb; done))
                    rename_i elem
                    obtain ⟨k1, k2, t, k3, k4⟩ := sb_ok h hsb
                    have hlen : l.length = t.data.toList.length := by have := congrArg List.length k4; simpa [byteVals] using this
                    cases hsz : szOf P elem with
                    | none => rw [hsz] at hb; cases hb
                    | some size =>
                      rw [hsz] at hb; simp only at hb
                      cases hq : Mem.storeL (l.take (cond (Nat.ble l.length dLen) l.length dLen)) σ a 0 with
                      | none => rw [hq] at hb; cases hb
                      | some σ1 =>
                        rw [hq] at hb; cases hb
                        have hall := List.all_eq_true.1 k2
                        have hsim : SimL G (l.take (cond (Nat.ble l.length dLen) l.length dLen)) (byteVals (t.data.toList.take (cond (Nat.ble l.length dLen) l.length dLen))) :=
                          SimL.of_names h (fun v hv => hall v (List.mem_of_mem_take hv)) (by rw [List.map_take, k4, byteVals, byteVals, List.map_take])
                        obtain ⟨τ', m1, m2⟩ := storeL_sim (.refl σ) hw hr.lim (by
                          refine (wfL_iff _ _).2 fun v hv => wf_name hr.gnxt (hall v (List.mem_of_mem_take hv))) hsim (oneCell_bytes _) hq
                        refine ⟨σ, _, τ', .refl σ, ?_, m2.symm, .refl _⟩
                        unfold evalOp0
                        simp only [hc, ha, List.map_cons, List.map_nil, aBuiltin, hy, hxx]
                        rw [gvr_slice, gvr_name k1, k3]
                        unfold aCopy
                        simp only [h0, hu, hsz, srcLen, srcCells]
                        rw [← hlen, m1]
end Vai
