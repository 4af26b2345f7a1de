/- What an operation of the evaluator says, the model does: first part. -/
import Derived.Test.YtkjjidmchepjcaaDoorVA
set_option linter.unusedVariables false
set_option linter.unusedSimpArgs false
namespace Vai
open Go Go.RowKit

variable {P : Program} {G : Sym} {μ : Mu} {N0 : Nat} {σ : Mem} {w : World}

theorem rUnd {t : TypeId} {d : TypeDesc} (h : P.underlying t = some d) (w : World) : (underlying t).run P w = .ok d w := run_underlying h w
theorem rInfo {t : TypeId} {i : TypeInfo} (h : P.info? t = some i) (w : World) : (typeInfo t).run P w = .ok i w := by simp [typeInfo, h]
theorem szOf_inv {t : TypeId} {n : Nat} (h : szOf P t = some n) : ∃ i, P.info? t = some i ∧ i.size = n := by
  unfold szOf at h
  cases hi : P.info? t with
  | none => rw [hi] at h; cases h
  | some i => rw [hi] at h; exact ⟨i, rfl, Option.some.inj h⟩
theorem rSize {t : TypeId} {n : Nat} (h : szOf P t = some n) (w : World) : (Go.sizeOf t).run P w = .ok n w := by
  obtain ⟨i, hi, rfl⟩ := szOf_inv h
  simp [Go.sizeOf, rInfo hi]
theorem bytesOfT_inv {t : TypeId} {n : Nat} (h : bytesOfT P t = some n) : ∃ i, P.info? t = some i ∧ i.bytes = n := by
  unfold bytesOfT at h
  cases hi : P.info? t with
  | none => rw [hi] at h; cases h
  | some i => rw [hi] at h; exact ⟨i, rfl, Option.some.inj h⟩
theorem zeroOf_inv {t : TypeId} {z : Value} (h : zeroOf P t = some z) : ∃ i, P.info? t = some i ∧ i.zero = some z ∧ constOk z = true := by
  unfold zeroOf at h
  cases hi : P.info? t with
  | none => rw [hi] at h; cases h
  | some i =>
    rw [hi] at h; simp only at h
    cases hz : i.zero with
    | none => rw [hz] at h; cases h
    | some v =>
      rw [hz] at h
      cases hc : constOk v with
      | false => simp [hc] at h
      | true => simp [hc] at h; subst h; exact ⟨i, rfl, hz, hc⟩
theorem rZero {t : TypeId} {z : Value} (h : zeroOf P t = some z) (w : World) : (zeroValue t).run P w = .ok z w := by
  obtain ⟨i, hi, hz, _⟩ := zeroOf_inv h
  simp [zeroValue, rInfo hi, hz]
theorem zeroOf_const {t : TypeId} {z : Value} (h : zeroOf P t = some z) : constOk z = true := by
  obtain ⟨i, hi, hz, hc⟩ := zeroOf_inv h; exact hc
theorem rAgg {t : TypeId} {b : Bool} (h : aggT P t = some b) (w : World) : (isAgg t).run P w = .ok b w := by
  unfold aggT at h
  cases hu : P.underlying t with
  | none => rw [hu] at h; cases h
  | some d =>
    rw [hu] at h
    simp only [isAgg, Sem.run_bind, rUnd hu, Result.andThen_ok]
    cases d <;> simp only [Option.some.injEq] at h <;> subst h <;> rfl

theorem vcells_eq (v : Value) : v.cells = ⟨vcells v⟩ := by cases v <;> rfl
theorem vcells_conc (μ : Mu) (v : Value) : vcells (conc μ v) = (vcells v).map (conc μ) := by
  cases v with
  | agg cs => simp [vcells, conc, concA_map]
  | pointer a => cases a <;> simp [vcells, conc]
  | slice a l c => cases a <;> simp [vcells, conc]
  | map r => cases r <;> simp [vcells, conc]
  | chan r =>
    cases r with
    | none => simp [vcells, conc]
    | some r => rcases decV_cases (μ r).blk with ⟨k, n, e⟩ | ⟨s, e⟩ <;> simp [vcells, conc, e]
  | _ => simp [vcells, conc]
theorem vcells_wf {n : Nat} {v : Value} (h : wf n v) : wfL n (vcells v) := by
  cases v with
  | agg cs => exact (wfL_iff _ _).2 fun x hx => (wfA_iff _ _).1 h x (by simpa [vcells] using hx)
  | _ => exact ⟨h, trivial⟩
theorem wf_agg {n : Nat} {l : List Value} (h : wfL n l) : wf n (.agg ⟨l⟩) := h
theorem conc_agg (μ : Mu) (l : List Value) : conc μ (.agg ⟨l⟩) = .agg ⟨l.map (conc μ)⟩ := by simp only [conc, concA, concL_map]
theorem conc_tuple (μ : Mu) (l : List Value) : conc μ (.tuple ⟨l⟩) = .tuple ⟨l.map (conc μ)⟩ := by simp only [conc, concA, concL_map]

theorem rLoad (h : Rel G μ N0 σ w) {t : TypeId} {a : Addr} {v : Value} (hl : aLoad P σ t a = some v) :
    (loadVar t (μ.addr a)).run P w = .ok (conc μ v) w ∧ wf σ.nxt v := by
  unfold aLoad at hl
  cases hg : aggT P t with
  | none => rw [hg] at hl; cases hl
  | some b =>
    rw [hg] at hl
    cases b with
    | false =>
      simp only at hl
      obtain ⟨h1, h2⟩ := h.cell hl
      refine ⟨?_, h2⟩
      simp [loadVar, rAgg hg, h1]
    | true =>
      simp only at hl
      cases hs : szOf P t with
      | none => rw [hs] at hl; cases hl
      | some n =>
        rw [hs] at hl; simp only at hl
        cases hc : σ.cells a n with
        | none => rw [hc] at hl; cases hl
        | some l =>
          rw [hc] at hl; cases hl
          obtain ⟨h1, h2⟩ := h.loadCells (P := P) hc
          refine ⟨?_, wf_agg h2⟩
          simp [loadVar, rAgg hg, rSize hs, h1, conc_agg]

theorem rStore (h : Rel G μ N0 σ w) {σ' : Mem} {t : TypeId} {a : Addr} {v : Value} (hs : aStore P σ t a v = some σ') (hv : wf σ.nxt v) :
    ∃ w', (storeVar t (μ.addr a) (conc μ v)).run P w = .ok () w' ∧ Rel G μ N0 σ' w' ∧ Ext μ σ w μ σ' w' ∧ σ'.nxt = σ.nxt := by
  unfold aStore at hs
  cases hz : szOf P t with
  | none => rw [hz] at hs; cases hs
  | some n =>
    rw [hz] at hs; simp only [natBeq, cond_decide] at hs
    by_cases hn : (vcells v).length = n
    · rw [if_pos hn] at hs
      obtain ⟨w', h1, h2, h3, h4⟩ := Rel.storeL0 (P := P) (vcells v) h hs (vcells_wf hv)
      refine ⟨w', ?_, h2, h3, h4⟩
      have e : (conc μ v).cells.size = n := by rw [vcells_eq, vcells_conc]; simp [hn]
      have e2 : (conc μ v).cells.toList = (vcells v).map (conc μ) := by rw [vcells_eq, vcells_conc]
      simp only [storeVar, Sem.run_bind, rSize hz, Result.andThen_ok, e, ne_eq, not_true, if_false, e2]
      simpa using h1
    · rw [if_neg hn] at hs; cases hs

theorem rNewRow (h : Rel G μ N0 σ w) {σ' : Mem} {t : TypeId} {esz : Nat} {cells : List Value} {a : Addr} (hn : σ.newRow t esz cells = some (a, σ')) (hv : wfL σ.nxt cells) :
    ∃ μ' w', (Go.newRow t ⟨cells.map (conc μ)⟩).run P w = .ok (μ'.addr a) w' ∧ Rel G μ' N0 σ' w' ∧ Ext μ σ w μ' σ' w' ∧ a.block < σ'.nxt := by
  obtain ⟨μ', h1, h2, h3, h4⟩ := h.newRow hn hv
  refine ⟨μ', _, ?_, h1, h2, h4⟩
  rw [h3]
  simp [Go.newRow]

theorem rNew (h : Rel G μ N0 σ w) {r : NX × Mem} {t : TypeId} {v : Value} (hn : aNew σ t v = some r) (hv : wf σ.nxt v) :
    ∃ μ' w' p, r.1 = .val (.pointer (some p)) ∧ (newVar t (conc μ v)).run P w = .ok (μ'.addr p) w' ∧ Rel G μ' N0 r.2 w' ∧ Ext μ σ w μ' r.2 w' ∧ p.block < r.2.nxt := by
  unfold aNew at hn
  cases hr : σ.newRow t 0 (vcells v) with
  | none => rw [hr] at hn; cases hn
  | some p =>
    obtain ⟨a, σ'⟩ := p
    rw [hr] at hn; cases hn
    obtain ⟨μ', w', h1, h2, h3, h4⟩ := rNewRow (P := P) h hr (vcells_wf hv)
    refine ⟨μ', w', a, rfl, ?_, h2, h3, h4⟩
    rw [newVar, vcells_eq, vcells_conc]
    exact h1

/-- What an operation's run comes to. -/
def OpOk (P : Program) (G : Sym) (μ : Mu) (N0 : Nat) (σ : Mem) (w : World) (s : Sem Next) (r : NX × Mem) : Prop :=
  ∃ μ' w', Rel G μ' N0 r.2 w' ∧ Ext μ σ w μ' r.2 w' ∧ match r.1 with
    | .val v => s.run P w = .ok (.value (conc μ' v)) w' ∧ wf r.2.nxt v
    | .skip => s.run P w = .ok .skip w'
    | .enter f args => s.run P w = .ok (.enter f (concA μ' args)) w' ∧ wfA r.2.nxt args
    | .panic => ∃ x, s.run P w = .halt (.panic x) w'

theorem OpOk.pure (h : Rel G μ N0 σ w) {s : Sem Next} {v : Value} (hs : s.run P w = .ok (.value (conc μ v)) w) (hv : wf σ.nxt v) : OpOk P G μ N0 σ w s (.val v, σ) :=
  ⟨μ, w, h, Ext.refl _ _ _, hs, hv⟩
theorem OpOk.panic0 (h : Rel G μ N0 σ w) {s : Sem Next} {x : Value} (hs : s.run P w = .halt (.panic x) w) : OpOk P G μ N0 σ w s (.panic, σ) :=
  ⟨μ, w, h, Ext.refl _ _ _, x, hs⟩
theorem OpOk.panic1 (h : Rel G μ N0 σ w) {s : Sem Next} {x : Value} (hs : s.run P w = .halt (.panic x) w.drew) : OpOk P G μ N0 σ w s (.panic, σ) :=
  ⟨μ, w.drew, h.drew, Ext.drew _ _ _, x, hs⟩

theorem aListSet_spec {l vs l' : List Value} {i : Nat} (h : aListSet l i vs = some l') : i + vs.length ≤ l.length ∧ l' = l.take i ++ vs ++ l.drop (i + vs.length) := by
  simp only [aListSet, natBle, cond_decide] at h
  by_cases hc : i + vs.length ≤ l.length
  · rw [if_pos hc] at h; exact ⟨hc, (Option.some.inj h).symm⟩
  · rw [if_neg hc] at h; cases h
end Vai

namespace Vai
open Go Go.RowKit

variable {P : Program} {G : Sym} {μ : Mu} {N0 : Nat} {σ : Mem} {w : World}

theorem foldl_set (off : Nat) : ∀ (l : List Value) (s : Nat) (cs : Array Value), off + s + l.length ≤ cs.size →
    ((l.zipIdx s).foldl (fun cs (x : Value × Nat) => cs.setIfInBounds (off + x.2) x.1) cs).toList = cs.toList.take (off + s) ++ l ++ cs.toList.drop (off + s + l.length)
  | [], s, cs, _ => by simp
  | v :: l, s, cs, h => by
    simp only [List.length_cons] at h
    rw [List.zipIdx_cons, List.foldl_cons, foldl_set off l (s + 1) _ (by simp; omega)]
    simp only [Array.toList_setIfInBounds, List.length_cons]
    apply List.ext_getElem?
    intro k
    simp only [List.getElem?_append, List.getElem?_take, List.getElem?_drop, List.getElem?_set, List.length_append, List.length_take, List.length_set, Array.length_toList, List.getElem?_cons, List.length_cons]
    have e1 : min (off + (s + 1)) cs.size = off + s + 1 := by omega
    have e2 : min (off + s) cs.size = off + s := by omega
    rw [e1, e2]
    by_cases c1 : k < off + s
    · rw [if_pos (by omega), if_pos (by omega), if_pos (by omega), if_neg (by omega), if_pos (by omega), if_pos (by omega), if_pos c1]
    · by_cases c2 : k = off + s
      · subst c2
        rw [if_pos (by omega), if_pos (by omega), if_pos (by omega), if_pos rfl, if_pos (by omega), if_pos (by omega), if_neg (by omega), if_pos (by omega)]
      · by_cases c3 : k < off + s + 1 + l.length
        · rw [if_pos (by omega), if_neg (by omega), if_pos (by omega), if_neg (by omega), if_neg (by omega)]
          congr 1
        · rw [if_neg (by omega), if_neg (by omega), if_neg (by omega)]
          congr 1; omega

theorem fill_conc (μ : Mu) (place place' : Nat → Option (Nat × Nat)) (hp : ∀ i, place' i = place i) : ∀ (parts : List (Nat × Value)) (cells l : List Value), aFill place parts cells = some l →
    Instr.fill place' ⟨cells.map (conc μ)⟩ (parts.map fun p => (p.1, conc μ p.2)) = some ⟨l.map (conc μ)⟩
  | [], cells, l, h => by
    have : some cells = some l := h
    cases this; rfl
  | (i, v) :: parts, cells, l, h => by
    have h' : (match place i with
      | none => none
      | some (off, size) => cond (Nat.beq (vcells v).length size) (match aListSet cells off (vcells v) with
        | none => none
        | some cells' => aFill place parts cells') none) = some l := h
    simp only [List.map_cons, Instr.fill, hp]
    cases hpl : place i with
    | none => rw [hpl] at h'; cases h'
    | some q =>
      obtain ⟨off, size⟩ := q
      rw [hpl] at h'
      simp only [natBeq, cond_decide] at h'
      by_cases hs : (vcells v).length = size
      · rw [if_pos hs] at h'
        cases hl : aListSet cells off (vcells v) with
        | none => rw [hl] at h'; cases h'
        | some cells' =>
          rw [hl] at h'
          obtain ⟨h1, rfl⟩ := aListSet_spec hl
          have ih := fill_conc μ place place' hp parts _ l h'
          have e1 : (conc μ v).cells.size = size := by rw [vcells_eq, vcells_conc]; simp [hs]
          simp only [e1, Bool.false_or, ne_eq, not_true, decide_false]
          rw [if_neg (by simp; omega)]
          rw [← ih]
          congr 1
          apply Array.ext'
          rw [vcells_eq, vcells_conc]
          have := foldl_set off ((vcells v).map (conc μ)) 0 ⟨cells.map (conc μ)⟩ (by simp; omega)
          rw [← Array.foldl_toList, Array.toList_zipIdx]
          simpa using this
      · rw [if_neg hs] at h'; cases h'

theorem fill_wf {n : Nat} (place : Nat → Option (Nat × Nat)) : ∀ (parts : List (Nat × Value)) (cells l : List Value), aFill place parts cells = some l → wfL n cells → (∀ p ∈ parts, wf n p.2) → wfL n l
  | [], cells, l, h, hc, _ => by
    have : some cells = some l := h
    cases this; exact hc
  | (i, v) :: parts, cells, l, h, hc, hp => by
    have h' : (match place i with
      | none => none
      | some (off, size) => cond (Nat.beq (vcells v).length size) (match aListSet cells off (vcells v) with
        | none => none
        | some cells' => aFill place parts cells') none) = some l := h
    cases hpl : place i with
    | none => rw [hpl] at h'; cases h'
    | some q =>
      obtain ⟨off, size⟩ := q
      rw [hpl] at h'
      simp only [natBeq, cond_decide] at h'
      by_cases hs : (vcells v).length = size
      · rw [if_pos hs] at h'
        cases hl : aListSet cells off (vcells v) with
        | none => rw [hl] at h'; cases h'
        | some cells' =>
          rw [hl] at h'
          obtain ⟨h1, rfl⟩ := aListSet_spec hl
          refine fill_wf place parts _ l h' ((wfL_iff _ _).2 fun x hx => ?_) (fun p hpp => hp p (List.mem_cons_of_mem _ hpp))
          have hc' := (wfL_iff _ _).1 hc
          have hv' := (wfL_iff _ _).1 (vcells_wf (hp (i, v) (List.mem_cons_self ..)))
          simp only [List.mem_append] at hx
          rcases hx with (hx | hx) | hx
          · exact hc' x (List.mem_of_mem_take hx)
          · exact hv' x hx
          · exact hc' x (List.mem_of_mem_drop hx)
      · rw [if_neg hs] at h'; cases h'

theorem wfL_const' {n : Nat} {z : Value} (h : constOk z = true) : wfL n (vcells z) := vcells_wf (wf_const n z h)
theorem vcells_const {z : Value} (μ : Mu) (h : constOk z = true) : (vcells z).map (conc μ) = vcells z := by
  rw [← vcells_conc, conc_const μ z h]
end Vai

namespace Vai
open Go Go.RowKit

variable {P : Program} {G : Sym} {μ : Mu} {N0 : Nat} {σ : Mem} {w : World}

theorem mapM_places (w : World) : ∀ (l : List Field), (l.all fun f => (szOf P f.type).isSome) = true →
    (l.mapM (fun f => (do pure (f.offset, ← Go.sizeOf f.type) : Sem (Nat × Nat)))).run P w = .ok (l.map fun f => (f.offset, (szOf P f.type).getD 0)) w
  | [], _ => by simp
  | f :: l, h => by
    simp only [List.all_cons, Bool.and_eq_true] at h
    obtain ⟨n, hn⟩ := Option.isSome_iff_exists.1 h.1
    have ih := mapM_places w l h.2
    simp only [List.mapM_cons, Sem.run_bind, rSize hn, Result.andThen_ok, Sem.run_pure, ih, List.map_cons, hn, Option.getD_some]

theorem arr_mapM_places (w : World) (fs : Array Field) (h : (fs.toList.all fun f => (szOf P f.type).isSome) = true) :
    (fs.mapM (fun f => (do pure (f.offset, ← Go.sizeOf f.type) : Sem (Nat × Nat)))).run P w = .ok (fs.map fun f => (f.offset, (szOf P f.type).getD 0)) w := by
  rw [Array.mapM_eq_mapM_toList]
  simp only [Sem.run_map, mapM_places w _ h, Result.andThen_ok]
  congr 1
  apply Array.ext'; simp

theorem aBuild_run {t : TypeId} {parts : Array (Nat × Value)} {v : Value} (h : aBuild P t parts.toList = some v) (hp : ∀ p ∈ parts.toList, wf σ.nxt p.2) :
    (Instr.build t (parts.map fun p => (p.1, conc μ p.2))).run P w = .ok (conc μ v) w ∧ wf σ.nxt v := by
  unfold aBuild at h
  cases hz : zeroOf P t with
  | none => rw [hz] at h; cases h
  | some z =>
    rw [hz] at h; simp only at h
    have hc := zeroOf_const hz
    have hzc : z.cells = ⟨(vcells z).map (conc μ)⟩ := by rw [vcells_eq, vcells_const μ hc]
    cases hu : P.underlying t with
    | none => rw [hu] at h; cases h
    | some d =>
      rw [hu] at h
      cases d <;> simp only at h <;> (try cases h)
      case struct fields =>
        cases hk : fieldsKnown P t with
        | false => rw [hk] at h; cases h
        | true =>
          rw [hk, cond_true] at h
          cases hf : aFill (fieldPlaces P t) parts.toList (vcells z) with
          | none => rw [hf] at h; cases h
          | some l =>
            rw [hf] at h; cases h
            have hk' : (fields.toList.all fun f => (szOf P f.type).isSome) = true := by unfold fieldsKnown at hk; rw [hu] at hk; exact hk
            have hpl : ∀ i, (fields.map fun f => (f.offset, (szOf P f.type).getD 0))[i]? = fieldPlaces P t i := by
              intro i
              unfold fieldPlaces; rw [hu]; simp only
              rw [Array.getElem?_map]
              cases hfi : fields[i]? with
              | none => rfl
              | some f =>
                simp only [Option.map_some]
                have hm : f ∈ fields.toList := by
                  have := Array.mem_of_getElem? hfi
                  simpa using this
                obtain ⟨n, hn⟩ := Option.isSome_iff_exists.1 (List.all_eq_true.1 hk' f hm)
                simp [hn]
            have := fill_conc μ (fieldPlaces P t) (fun i => (fields.map fun f => (f.offset, (szOf P f.type).getD 0))[i]?) hpl parts.toList (vcells z) l hf
            refine ⟨?_, wf_agg (fill_wf _ _ _ _ hf (wfL_const' hc) hp)⟩
            simp only [Instr.build, Sem.run_bind, rZero hz, Result.andThen_ok, rUnd hu, arr_mapM_places w fields hk', hzc, Array.toList_map]
            simp only [this, Sem.run_pure, conc_agg]
      case array n elem =>
        cases hs : szOf P elem with
        | none => rw [hs] at h; cases h
        | some size =>
          rw [hs] at h; simp only at h
          cases hf : aFill (fun i => some (i * size, size)) parts.toList (vcells z) with
          | none => rw [hf] at h; cases h
          | some l =>
            rw [hf] at h; cases h
            have := fill_conc μ (fun i => some (i * size, size)) (fun i => some (i * size, size)) (fun _ => rfl) parts.toList (vcells z) l hf
            refine ⟨?_, wf_agg (fill_wf _ _ _ _ hf (wfL_const' hc) hp)⟩
            simp only [Instr.build, Sem.run_bind, rZero hz, Result.andThen_ok, rUnd hu, rSize hs, hzc, Array.toList_map]
            simp only [this, Sem.run_pure, conc_agg]

theorem repL_zero (z : List Value) : repL z 0 = [] := rfl
theorem repL_succ (z : List Value) (n : Nat) : repL z (n + 1) = z ++ repL z n := rfl
theorem repL_len (z : List Value) : ∀ n, (repL z n).length = n * z.length
  | 0 => by simp [repL_zero]
  | n + 1 => by rw [repL_succ, List.length_append, repL_len z n, Nat.succ_mul]; omega
theorem repL_get (z : List Value) : ∀ (n i : Nat), i < n * z.length → (repL z n)[i]? = z[i % z.length]?
  | 0, i, h => by simp at h
  | n + 1, i, h => by
    rw [repL_succ]
    by_cases h1 : i < z.length
    · rw [List.getElem?_append_left h1, Nat.mod_eq_of_lt h1]
    · rw [List.getElem?_append_right (by omega), repL_get z n _ (by rw [Nat.succ_mul] at h; omega)]
      congr 1
      rw [Nat.mod_eq_sub_mod (a := i) (by omega)]
/-- As the model lays them. -/
theorem repL_eq (z : Array Value) (n size : Nat) (hs : z.toList.length = size) : ((Array.range (n * size)).map fun i => z[i % z.size]!) = ⟨repL z.toList n⟩ := by
  apply Array.ext'
  apply List.ext_getElem?
  intro i
  have hsz : z.size = size := hs
  by_cases hi : i < n * size
  · have hpos : 0 < size := by
      rcases Nat.eq_zero_or_pos size with h0 | h0
      · rw [h0] at hi; simp at hi
      · exact h0
    have hm : i % size < size := Nat.mod_lt _ hpos
    rw [show (⟨repL z.toList n⟩ : Array Value).toList = repL z.toList n from rfl, repL_get _ _ _ (by rw [hs]; exact hi), hs]
    simp only [Array.toList_map, Array.toList_range, List.getElem?_map, List.getElem?_range hi, Option.map_some, hsz]
    rw [getElem!_pos z (i % size) (by omega), List.getElem?_eq_getElem (by omega)]
    simp
  · rw [List.getElem?_eq_none (by simp; omega), List.getElem?_eq_none]
    show (repL z.toList n).length ≤ i
    rw [repL_len, hs]; omega
theorem repL_wf {n : Nat} {z : List Value} (h : wfL n z) (k : Nat) : wfL n (repL z k) := by
  induction k with
  | zero => rw [repL_zero]; trivial
  | succ k ih =>
    rw [repL_succ]
    refine (wfL_iff _ _).2 fun x hx => ?_
    rcases List.mem_append.1 hx with h1 | h1
    · exact (wfL_iff _ _).1 h x h1
    · exact (wfL_iff _ _).1 ih x h1
theorem repL_conc (μ : Mu) {z : List Value} (h : z.map (conc μ) = z) (k : Nat) : (repL z k).map (conc μ) = repL z k := by
  induction k with
  | zero => rfl
  | succ k ih => rw [repL_succ, List.map_append, h, ih]

theorem conc_slice (μ : Mu) (a : Addr) (l c : Nat) : conc μ (.slice (some a) l c) = .slice (some (μ.addr a)) l (μ.cap a.block c) := rfl
theorem cap_small (μ : Mu) (b c : Nat) (h : c < HALF) : μ.cap b c = c := by unfold Mu.cap; rw [if_pos h]
theorem HALF_val : HALF = 2305843009213693952 := rfl
theorem HUGE_val : HUGE = 4611686018427387904 := rfl

theorem aBuildSlice_ok (h : Rel G μ N0 σ w) {t : TypeId} {len : Nat} {parts : Array (Nat × Value)} {r : NX × Mem} (hb : aBuildSlice P σ t len parts.toList = some r) (hp : ∀ p ∈ parts.toList, wf σ.nxt p.2) :
    OpOk P G μ N0 σ w (do pure (.value (← Instr.buildSlice t len (parts.map fun p => (p.1, conc μ p.2))))) r := by
  unfold aBuildSlice at hb
  cases hu : P.underlying t with
  | none => rw [hu] at hb; cases hb
  | some d =>
    rw [hu] at hb
    cases d <;> simp only at hb <;> (try cases hb)
    case slice elem =>
      cases hs : szOf P elem with
      | none => rw [hs] at hb; cases hb
      | some size =>
        rw [hs] at hb; simp only at hb
        cases hz : zeroOf P elem with
        | none => rw [hz] at hb; cases hb
        | some z =>
          rw [hz] at hb; simp only [natBeq, natBle] at hb
          by_cases hc : ((vcells z).length = size ∧ len * size ≤ 1000000) ∧ len ≤ 1000000
          · rw [decide_eq_true hc.1.1, decide_eq_true hc.1.2, decide_eq_true hc.2] at hb
            simp only [Bool.and_self, cond_true] at hb
            cases hf : aFill (fun i => some (i * size, size)) parts.toList (repL (vcells z) len) with
            | none => rw [hf] at hb; cases hb
            | some l =>
              rw [hf] at hb; simp only at hb
              cases hn : σ.newRow elem size l with
              | none => rw [hn] at hb; cases hb
              | some q =>
                obtain ⟨a, σ'⟩ := q
                rw [hn] at hb; cases hb
                have hzc := zeroOf_const hz
                have hwf := fill_wf (n := σ.nxt) _ _ _ _ hf (repL_wf (wfL_const' hzc) len) hp
                obtain ⟨μ', w', e1, e2, e3, e4⟩ := rNewRow (P := P) h hn hwf
                have hfl := fill_conc μ (fun i => some (i * size, size)) (fun i => some (i * size, size)) (fun _ => rfl) parts.toList _ l hf
                rw [repL_conc μ (vcells_const μ hzc)] at hfl
                have hlen : len < HALF := by rw [HALF_val]; have := hc.2; omega
                refine ⟨μ', w', e2, e3, ?_, e4⟩
                simp only [conc_slice, cap_small _ _ _ hlen]
                have hsz : z.cells.toList.length = size := by rw [vcells_eq]; exact hc.1.1
                have hzz : z.cells.toList = vcells z := by rw [vcells_eq]
                simp only [Instr.buildSlice, Sem.run_bind, rUnd hu, rSize hs, Result.andThen_ok]
                rw [if_neg (by have := hc.1.2; omega)]
                by_cases h0 : len * size = 0
                · simp only [h0, if_true, Sem.run_bind, Sem.run_pure, Result.andThen_ok, Array.toList_map]
                  have hr0 : repL (vcells z) len = [] := List.eq_nil_of_length_eq_zero (by rw [repL_len, hc.1.1]; exact h0)
                  rw [hr0] at hfl
                  have hrg : ∀ f : Nat → Value, (Array.range 0).map f = ⟨[]⟩ := fun _ => Array.ext' (by simp)
                  simp only [hrg, hfl, Sem.run_bind, e1, Result.andThen_ok, Sem.run_pure]
                · simp only [h0, if_false, Sem.run_bind, rZero hz, Sem.run_pure, Result.andThen_ok, Array.toList_map]
                  rw [repL_eq _ _ _ hsz, hzz, hfl]
                  simp only [Sem.run_bind, e1, Result.andThen_ok, Sem.run_pure]
          · exfalso
            have h1 := hc; rw [Classical.not_and_iff_not_or_not, Classical.not_and_iff_not_or_not] at h1
            rcases h1 with (h1 | h1) | h1 <;> simp [h1] at hb
end Vai

namespace Vai
open Go Go.RowKit

variable {P : Program} {G : Sym} {μ : Mu} {N0 : Nat} {σ : Mem} {w : World}

theorem run_bounds (α : Type) (P : Program) (w : World) (k : IntKind) (x y : Int) (c : BoundsCode) :
    ∃ v w', (boundsPanic k x y c : Sem α).run P w = .halt (.panic v) w' ∧ (w' = w ∨ w' = w.drew) := by
  unfold boundsPanic
  by_cases h : (k != .u64 && decide (0 ≤ x) && decide (x ≤ 31)) = true
  · refine ⟨.iface P.rt.boundsError (.agg #[.int .i64 (IntKind.i64.wrap x), .int .i64 y, .bool ((Question.cut (.extern "runtime.boundsError.signed" 2) (w.tape w.drawn (.extern "runtime.boundsError.signed" 2))) == 1), .int .u8 c.toNat]), w.drew, ?_, .inr rfl⟩
    simp only [h, if_true, Sem.run_bind, Sem.run_map, run_choose, Question.forced]
    simp [runtimePanic]
  · refine ⟨.iface P.rt.boundsError (.agg #[.int .i64 (IntKind.i64.wrap x), .int .i64 y, .bool (k != .u64), .int .u8 c.toNat]), w, ?_, .inl rfl⟩
    simp only [h]
    simp [runtimePanic]

theorem OpOk.bounds (h : Rel G μ N0 σ w) {s : Sem Next} (hs : ∃ x w', s.run P w = .halt (.panic x) w' ∧ (w' = w ∨ w' = w.drew)) : OpOk P G μ N0 σ w s (.panic, σ) := by
  obtain ⟨x, w', h1, h2 | h2⟩ := hs
  · subst h2; exact OpOk.panic0 h h1
  · subst h2; exact OpOk.panic1 h h1

theorem conc_ptr (μ : Mu) (a : Addr) : conc μ (.pointer (some a)) = .pointer (some (μ.addr a)) := rfl
theorem conc_int (μ : Mu) (k : IntKind) (n : Int) : conc μ (.int k n) = .int k n := rfl

theorem aMakeSlice_ok (h : Rel G μ N0 σ w) {t : TypeId} {l c : Value} {r : NX × Mem} (hb : aMakeSlice P σ t l c = some r) :
    OpOk P G μ N0 σ w (do pure (.value (← Instr.makeSlice t (conc μ l) (conc μ c)))) r := by
  unfold aMakeSlice at hb
  cases hu : P.underlying t with
  | none => rw [hu] at hb; cases hb
  | some d =>
    rw [hu] at hb
    cases d <;> (try simp only at hb) <;> (try cases hb)
    case slice elem =>
      cases l <;> (try simp only at hb) <;> (try cases hb)
      case int kl il =>
        cases il <;> (try simp only at hb) <;> (try cases hb)
        case ofNat ln =>
          cases c <;> (try simp only at hb) <;> (try cases hb)
          case int kc ic =>
            cases ic <;> (try simp only at hb) <;> (try cases hb)
            case ofNat cn =>
              cases hs : szOf P elem with
              | none => rw [hs] at hb; cases hb
              | some size =>
                cases hy : bytesOfT P elem with
                | none => rw [hs, hy] at hb; cases hb
                | some bytes =>
                  cases hz : zeroOf P elem with
                  | none => rw [hs, hy, hz] at hb; cases hb
                  | some z =>
                    rw [hs, hy, hz] at hb; simp only [natBeq, natBle] at hb
                    by_cases hc : ((ln ≤ cn ∧ cn ≤ 1000000) ∧ cn * bytes ≤ 140737488355328) ∧ (vcells z).length = size
                    · rw [decide_eq_true hc.1.1.1, decide_eq_true hc.1.1.2, decide_eq_true hc.1.2, decide_eq_true hc.2] at hb
                      simp only [Bool.and_self, cond_true] at hb
                      cases hn : σ.newRow elem size (repL (vcells z) cn) with
                      | none => rw [hn] at hb; cases hb
                      | some q =>
                        obtain ⟨a, σ'⟩ := q
                        rw [hn] at hb; cases hb
                        obtain ⟨⟨⟨c1, c2⟩, c3⟩, c4⟩ := hc
                        have hzc := zeroOf_const hz
                        obtain ⟨μ', w', e1, e2, e3, e4⟩ := rNewRow (P := P) h hn (repL_wf (wfL_const' hzc) cn)
                        rw [repL_conc μ (vcells_const μ hzc)] at e1
                        refine ⟨μ', w', e2, e3, ?_, e4⟩
                        rw [conc_slice, cap_small _ _ _ (by rw [HALF_val]; omega)]
                        obtain ⟨info, hi, hbb⟩ := bytesOfT_inv hy
                        have wl : IntKind.i64.wrap ((ln : Nat) : Int) = (ln : Int) := by rw [IntKind.wrap_i64]; omega
                        have wc : IntKind.i64.wrap ((cn : Nat) : Int) = (cn : Int) := by rw [IntKind.wrap_i64]; omega
                        have hsz : z.cells.toList.length = size := by rw [vcells_eq]; exact c4
                        have hzz : z.cells.toList = vcells z := by rw [vcells_eq]
                        have hbz : ((info.bytes : Nat) : Int) * (cn : Int) ≤ 2 ^ 48 := by
                          have : info.bytes * cn ≤ 140737488355328 := by rw [hbb, Nat.mul_comm]; exact c3
                          have h2 : ((info.bytes * cn : Nat) : Int) ≤ 140737488355328 := by omega
                          rw [Int.natCast_mul] at h2
                          have : (2 : Int) ^ 48 = 281474976710656 := rfl
                          omega
                        simp only [conc_int, Instr.makeSlice, Sem.run_bind, rUnd hu, Result.andThen_ok, rInfo hi, asInt, asIntOf, Sem.run_pure, Int.ofNat_eq_natCast, wl, wc]
                        rw [if_neg (by simp; omega)]
                        simp only [Sem.run_bind, run_askRoom, Result.andThen_ok, rSize hs, Int.toNat_natCast]
                        by_cases h0 : cn * size = 0
                        · simp only [h0, if_true, Sem.run_bind, Sem.run_pure, Result.andThen_ok]
                          have hr0 : repL (vcells z) cn = [] := List.eq_nil_of_length_eq_zero (by rw [repL_len, c4]; exact h0)
                          rw [hr0] at e1
                          have hrg : ∀ f : Nat → Value, (Array.range 0).map f = ⟨[]⟩ := fun _ => Array.ext' (by simp)
                          simp only [hrg, Sem.run_bind, e1, Result.andThen_ok, Sem.run_pure]
                        · simp only [h0, if_false, Sem.run_bind, rZero hz, Sem.run_pure, Result.andThen_ok]
                          rw [repL_eq _ _ _ hsz, hzz]
                          simp only [Sem.run_bind, e1, Result.andThen_ok, Sem.run_pure]
                    · exfalso
                      have h1 := hc; rw [Classical.not_and_iff_not_or_not, Classical.not_and_iff_not_or_not, Classical.not_and_iff_not_or_not] at h1
                      rcases h1 with ((h1 | h1) | h1) | h1 <;> simp [h1] at hb

theorem aFieldAddr_ok (h : Rel G μ N0 σ w) {s : TypeId} {x : Value} {f : Nat} {v : NX} (hb : aFieldAddr P s x f = some v) (hx : wf σ.nxt x) :
    OpOk P G μ N0 σ w (do pure (.value (← Instr.fieldAt s (conc μ x) f))) (v, σ) := by
  unfold aFieldAddr at hb
  cases x <;> (try simp only at hb) <;> (try cases hb)
  case pointer a =>
    cases a <;> (try simp only at hb) <;> (try cases hb)
    case some a =>
      cases hu : P.underlying s with
      | none => rw [hu] at hb; cases hb
      | some d =>
        rw [hu] at hb
        cases d <;> (try simp only at hb) <;> (try cases hb)
        case struct fields =>
          cases hf : fields[f]? with
          | none => rw [hf] at hb; cases hb
          | some fd =>
            rw [hf] at hb; simp only at hb
            cases hs : szOf P fd.type with
            | none => rw [hs] at hb; cases hb
            | some n =>
              rw [hs] at hb
              rcases n with _ | n
              · cases hb
              · cases hsp : a.spot with
                | some s => rw [hsp] at hb; cases hb
                | none =>
                rw [hsp] at hb; cases hb
                refine OpOk.pure h ?_ (show (a.add fd.offset).block < _ by rw [add_block]; exact hx)
                simp only [conc_ptr, Instr.fieldAt, Sem.run_bind, rUnd hu, Result.andThen_ok, hf, Instr.sureAddr, Sem.run_pure, fieldPlace, rSize hs]
                simp [Mu.addr_add _ _ _ hsp]

theorem aPart_run {t : TypeId} {l : List Value} {off : Nat} {v : Value} (hb : aPart P t l off = some v) (w : World) :
    (part t ⟨l.map (conc μ)⟩ off).run P w = .ok (conc μ v) w := by
  unfold aPart at hb
  cases hg : aggT P t with
  | none => rw [hg] at hb; cases hb
  | some b =>
    rw [hg] at hb
    cases b with
    | true =>
      simp only at hb
      cases hs : szOf P t with
      | none => rw [hs] at hb; cases hb
      | some n =>
        rw [hs] at hb; cases hb
        simp only [part, Sem.run_bind, rAgg hg, Result.andThen_ok, if_true, rSize hs, Sem.run_pure, conc_agg]
        congr 2
        apply Array.ext'
        simp [List.map_take, List.map_drop]
    | false =>
      simp only at hb
      simp only [part, Sem.run_bind, rAgg hg, Result.andThen_ok, Bool.false_eq_true, if_false]
      have : (⟨l.map (conc μ)⟩ : Array Value)[off]? = some (conc μ v) := by
        rw [show (⟨l.map (conc μ)⟩ : Array Value) = (l.map (conc μ)).toArray from rfl, List.getElem?_toArray, List.getElem?_map, hb]; rfl
      rw [this]
      rfl
theorem aPart_wf {n : Nat} {t : TypeId} {l : List Value} {off : Nat} {v : Value} (hb : aPart P t l off = some v) (hl : wfL n l) : wf n v := by
  unfold aPart at hb
  cases hg : aggT P t with
  | none => rw [hg] at hb; cases hb
  | some b =>
    rw [hg] at hb
    cases b with
    | true =>
      simp only at hb
      cases hs : szOf P t with
      | none => rw [hs] at hb; cases hb
      | some m =>
        rw [hs] at hb; cases hb
        exact wf_agg ((wfL_iff _ _).2 fun x hx => (wfL_iff _ _).1 hl x (List.mem_of_mem_drop (List.mem_of_mem_take hx)))
    | false => exact (wfL_iff _ _).1 hl v (List.mem_of_getElem? hb)

theorem conc_aggA (μ : Mu) (cs : Array Value) : conc μ (.agg cs) = .agg ⟨cs.toList.map (conc μ)⟩ := by
  cases cs; exact conc_agg μ _
theorem wf_aggA {n : Nat} {cs : Array Value} (h : wf n (.agg cs)) : wfL n cs.toList := by cases cs; exact h

theorem aField_ok (h : Rel G μ N0 σ w) {t : TypeId} {x : Value} {f : Nat} {v : NX} (hb : aField P t x f = some v) (hx : wf σ.nxt x) :
    OpOk P G μ N0 σ w (do pure (.value (← Instr.field t (conc μ x) f))) (v, σ) := by
  unfold aField at hb
  cases x <;> (try simp only at hb) <;> (try cases hb)
  case agg cs =>
    cases hu : P.underlying t with
    | none => rw [hu] at hb; cases hb
    | some d =>
      rw [hu] at hb
      cases d <;> (try simp only at hb) <;> (try cases hb)
      case struct fields =>
        cases hf : fields[f]? with
        | none => rw [hf] at hb; cases hb
        | some fd =>
          rw [hf] at hb; simp only at hb
          cases hp : aPart P fd.type cs.toList fd.offset with
          | none => rw [hp] at hb; cases hb
          | some y =>
            rw [hp] at hb; cases hb
            refine OpOk.pure h ?_ (aPart_wf hp (wf_aggA hx))
            simp only [conc_aggA, Instr.field, Sem.run_bind, rUnd hu, Result.andThen_ok, hf, asAgg, Sem.run_pure, aPart_run (μ := μ) hp]

theorem aIndexAddr_ok (h : Rel G μ N0 σ w) {t : TypeId} {x ix : Value} {v : NX} (hb : aIndexAddr P t x ix = some v) (hx : wf σ.nxt x) :
    OpOk P G μ N0 σ w (do pure (.value (← Instr.indexAt t (conc μ x) (conc μ ix)))) (v, σ) := by
  unfold aIndexAddr at hb
  cases ix <;> (try simp only at hb) <;> (try cases hb)
  case int k i =>
    cases hu : P.underlying t with
    | none => rw [hu] at hb; cases hb
    | some d =>
      rw [hu] at hb
      cases d <;> (try simp only at hb) <;> (try cases hb)
      case array len elem =>
        cases x <;> (try simp only at hb) <;> (try cases hb)
        case pointer a =>
          cases a <;> (try simp only at hb) <;> (try cases hb)
          case some a =>
            have start : (do pure (.value (← Instr.indexAt t (conc μ (.pointer (some a))) (conc μ (.int k i)))) : Sem Next).run P w =
                ((if 0 ≤ i ∧ i < (len : Int) then (do pure (.pointer (some ((μ.addr a).add (i.toNat * (← Go.sizeOf elem)))))) else if decide (len ≤ 1) = true then unsupported (.noEntry "op/indexAddr.an index out of range at an array of length 0 or 1 (ledger 616)") else boundsPanic k i len .index : Sem Value).run P w).andThen fun v w' => .ok (.value v) w' := by
              simp only [Instr.indexAt, Sem.run_bind, conc_int, asIntOf, Sem.run_pure, Result.andThen_ok, rUnd hu, conc_ptr, Instr.sureAddr]
              simp
            have far : ¬ (0 ≤ i ∧ i < (len : Int)) → ¬ len ≤ 1 → OpOk P G μ N0 σ w (do pure (.value (← Instr.indexAt t (conc μ (.pointer (some a))) (conc μ (.int k i))))) (.panic, σ) := by
              intro h1 h2
              obtain ⟨y, w', e1, e2⟩ := run_bounds Value P w k i len .index
              refine OpOk.bounds h ⟨y, w', ?_, e2⟩
              rw [start, if_neg h1, if_neg (by simpa using h2), e1]; rfl
            cases i with
            | ofNat j =>
              simp only [natBlt, natBle, cond_decide] at hb
              by_cases hj : j < len
              · rw [if_pos hj] at hb
                cases hs : szOf P elem with
                | none => rw [hs] at hb; cases hb
                | some n =>
                  rw [hs] at hb; simp only at hb
                  cases hsp : a.spot with
                  | some s => rw [hsp] at hb; cases hb
                  | none =>
                  rw [hsp] at hb; cases hb
                  refine OpOk.pure h ?_ (show (a.add (j * n)).block < _ by rw [add_block]; exact hx)
                  rw [start, if_pos (by constructor; exact Int.natCast_nonneg _; simp only [Int.ofNat_eq_natCast]; omega)]
                  simp [rSize hs, conc_ptr, Mu.addr_add _ _ _ hsp]
              · rw [if_neg hj] at hb
                by_cases h1 : len ≤ 1
                · rw [if_pos h1] at hb; cases hb
                · rw [if_neg h1] at hb; cases hb
                  exact far (by simp only [Int.ofNat_eq_natCast]; omega) h1
            | negSucc j =>
              simp only [natBle, cond_decide] at hb
              by_cases h1 : len ≤ 1
              · rw [if_pos h1] at hb; cases hb
              · rw [if_neg h1] at hb; cases hb
                exact far (by simp) h1
      case slice elem =>
        cases x <;> (try simp only at hb) <;> (try cases hb)
        case slice base len cap =>
          cases base with
          | none =>
            simp only at hb; cases hb
            obtain ⟨y, w', e1, e2⟩ := run_bounds Value P w k i 0 .index
            refine OpOk.bounds h ⟨y, w', ?_, e2⟩
            simp only [Instr.indexAt, Sem.run_bind, conc_int, asIntOf, Sem.run_pure, Result.andThen_ok, rUnd hu, conc]
            simp [e1]
          | some a =>
            simp only at hb
            have start : (do pure (.value (← Instr.indexAt t (conc μ (.slice (some a) len cap)) (conc μ (.int k i)))) : Sem Next).run P w =
                ((if 0 ≤ i ∧ i < (len : Int) then (do pure (.pointer (some ((μ.addr a).add (i.toNat * (← Go.sizeOf elem)))))) else boundsPanic k i len .index : Sem Value).run P w).andThen fun v w' => .ok (.value v) w' := by
              simp only [Instr.indexAt, Sem.run_bind, conc_int, asIntOf, Sem.run_pure, Result.andThen_ok, rUnd hu, conc_slice]
              simp
            have far : ¬ (0 ≤ i ∧ i < (len : Int)) → OpOk P G μ N0 σ w (do pure (.value (← Instr.indexAt t (conc μ (.slice (some a) len cap)) (conc μ (.int k i))))) (.panic, σ) := by
              intro h1
              obtain ⟨y, w', e1, e2⟩ := run_bounds Value P w k i len .index
              refine OpOk.bounds h ⟨y, w', ?_, e2⟩
              rw [start, if_neg h1, e1]; rfl
            cases i with
            | ofNat j =>
              simp only [natBlt, cond_decide] at hb
              by_cases hj : j < len
              · rw [if_pos hj] at hb
                cases hs : szOf P elem with
                | none => rw [hs] at hb; cases hb
                | some n =>
                  rw [hs] at hb; simp only at hb
                  cases hsp : a.spot with
                  | some s => rw [hsp] at hb; cases hb
                  | none =>
                  rw [hsp] at hb; cases hb
                  refine OpOk.pure h ?_ (show (a.add (j * n)).block < _ by rw [add_block]; exact hx)
                  rw [start, if_pos (by constructor; exact Int.natCast_nonneg _; simp only [Int.ofNat_eq_natCast]; omega)]
                  simp [rSize hs, conc_ptr, Mu.addr_add _ _ _ hsp]
              · rw [if_neg hj] at hb; cases hb
                exact far (by simp only [Int.ofNat_eq_natCast]; omega)
            | negSucc j =>
              simp only at hb; cases hb
              exact far (by simp)
end Vai

namespace Vai
open Go Go.RowKit

variable {P : Program} {G : Sym} {μ : Mu} {N0 : Nat} {σ : Mem} {w : World}

theorem aIndex_ok (h : Rel G μ N0 σ w) {t : TypeId} {x ix : Value} {v : NX} (hb : aIndex P t x ix = some v) (hx : wf σ.nxt x) :
    OpOk P G μ N0 σ w (do pure (.value (← Instr.index t (conc μ x) (conc μ ix)))) (v, σ) := by
  unfold aIndex at hb
  simp only [idxR_eq] at hb
  cases ix <;> (try simp only at hb) <;> (try cases hb)
  case int k i =>
    cases hu : P.underlying t with
    | none => rw [hu] at hb; cases hb
    | some d =>
      rw [hu] at hb
      cases d <;> (try simp only at hb) <;> (try cases hb)
      case array len elem =>
        cases x <;> (try simp only at hb) <;> (try cases hb)
        case agg cs =>
          have start : (do pure (.value (← Instr.index t (conc μ (.agg cs)) (conc μ (.int k i)))) : Sem Next).run P w =
              ((if 0 ≤ i ∧ i < (len : Int) then (do part elem ⟨cs.toList.map (conc μ)⟩ (i.toNat * (← Go.sizeOf elem))) else boundsPanic k i len .index : Sem Value).run P w).andThen fun v w' => .ok (.value v) w' := by
            simp only [Instr.index, Sem.run_bind, conc_int, asIntOf, Sem.run_pure, Result.andThen_ok, rUnd hu, conc_aggA]
          have far : ¬ (0 ≤ i ∧ i < (len : Int)) → OpOk P G μ N0 σ w (do pure (.value (← Instr.index t (conc μ (.agg cs)) (conc μ (.int k i))))) (.panic, σ) := by
            intro h1
            obtain ⟨y, w', e1, e2⟩ := run_bounds Value P w k i len .index
            refine OpOk.bounds h ⟨y, w', ?_, e2⟩
            rw [start, if_neg h1, e1]; rfl
          cases i with
          | ofNat j =>
            simp only [natBlt, cond_decide] at hb
            by_cases hj : j < len
            · rw [if_pos hj] at hb
              cases hs : szOf P elem with
              | none => rw [hs] at hb; cases hb
              | some n =>
                rw [hs] at hb; simp only at hb
                cases hp : aPart P elem cs.toList (j * n) with
                | none => rw [hp] at hb; cases hb
                | some y =>
                  rw [hp] at hb; cases hb
                  refine OpOk.pure h ?_ (aPart_wf hp (wf_aggA hx))
                  rw [start, if_pos (by constructor; exact Int.natCast_nonneg _; simp only [Int.ofNat_eq_natCast]; omega)]
                  simp [rSize hs, aPart_run (μ := μ) hp]
            · rw [if_neg hj] at hb; cases hb
              exact far (by simp only [Int.ofNat_eq_natCast]; omega)
          | negSucc j =>
            simp only at hb; cases hb
            exact far (by simp)
      case string =>
        cases x <;> (try simp only at hb) <;> (try cases hb)
        case string s =>
          have start : (do pure (.value (← Instr.index t (conc μ (.string s)) (conc μ (.int k i)))) : Sem Next).run P w =
              ((match (if 0 ≤ i then s[i.toNat]? else none) with
                | some b => pure (.int .u8 b.toNat)
                | none => boundsPanic k i s.size .index : Sem Value).run P w).andThen fun v w' => .ok (.value v) w' := by
            simp only [Instr.index, Sem.run_bind, conc_int, asIntOf, Sem.run_pure, Result.andThen_ok, rUnd hu, conc]
            rfl
          have far : (if 0 ≤ i then s[i.toNat]? else none) = none → OpOk P G μ N0 σ w (do pure (.value (← Instr.index t (conc μ (.string s)) (conc μ (.int k i))))) (.panic, σ) := by
            intro h1
            obtain ⟨y, w', e1, e2⟩ := run_bounds Value P w k i s.size .index
            refine OpOk.bounds h ⟨y, w', ?_, e2⟩
            rw [start, h1]; simp only [e1]; rfl
          have hget : ∀ j : Nat, s[j]? = s.data.toList[j]? := by
            intro j
            by_cases hj : j < s.size
            · rw [getElem?_pos s j hj, List.getElem?_eq_getElem (show j < s.data.toList.length from hj)]; rfl
            · rw [getElem?_neg s j hj, List.getElem?_eq_none (Nat.le_of_not_lt hj)]
          cases i with
          | ofNat j =>
            simp only at hb
            cases hj : s.data.toList[j]? with
            | none =>
              rw [hj] at hb; cases hb
              exact far (by rw [if_pos (show (0 : Int) ≤ Int.ofNat j from Int.natCast_nonneg j)]; exact (hget j).trans hj)
            | some b =>
              rw [hj] at hb; cases hb
              refine OpOk.pure h ?_ trivial
              rw [start, if_pos (show (0 : Int) ≤ Int.ofNat j from Int.natCast_nonneg j)]
              rw [show s[(Int.ofNat j).toNat]? = some b from (hget j).trans hj]
              rfl
          | negSucc j =>
            simp only at hb; cases hb
            exact far (by rw [if_neg (by simp)])

theorem bound_run {x : Value} {y : Nat} {o : Option Nat} (hb : bound x y = some o) (c : BoundsCode) (w : World) :
    match o with
    | some i => (Instr.sliceBound (conc μ x) y c).run P w = .ok i w ∧ i ≤ y
    | none => ∃ v w', (Instr.sliceBound (conc μ x) y c).run P w = .halt (.panic v) w' ∧ (w' = w ∨ w' = w.drew) := by
  unfold bound at hb
  cases x <;> (try simp only at hb) <;> (try cases hb)
  case int k i =>
    cases i with
    | ofNat j =>
      simp only [natBle, cond_decide] at hb
      by_cases hj : j ≤ y
      · rw [if_pos hj] at hb; cases hb
        refine ⟨?_, hj⟩
        simp only [Instr.sliceBound, conc_int, asIntOf, Sem.run_bind, Sem.run_pure, Result.andThen_ok]
        rw [if_pos (by constructor; exact Int.natCast_nonneg _; simp only [Int.ofNat_eq_natCast]; omega)]
        rfl
      · rw [if_neg hj] at hb; cases hb
        obtain ⟨v, w', e1, e2⟩ := run_bounds Nat P w k (Int.ofNat j) y c
        refine ⟨v, w', ?_, e2⟩
        simp only [Instr.sliceBound, conc_int, asIntOf, Sem.run_bind, Sem.run_pure, Result.andThen_ok]
        rw [if_neg (by simp only [Int.ofNat_eq_natCast]; omega)]
        exact e1
    | negSucc j =>
      simp only at hb; cases hb
      obtain ⟨v, w', e1, e2⟩ := run_bounds Nat P w k (Int.negSucc j) y c
      refine ⟨v, w', ?_, e2⟩
      simp only [Instr.sliceBound, conc_int, asIntOf, Sem.run_bind, Sem.run_pure, Result.andThen_ok]
      rw [if_neg (by simp)]
      exact e1

theorem sliceBounds_eq (isS : Bool) (len cap : Nat) (lo hi mx : Option Value) : Instr.sliceBounds isS len cap lo hi mx =
    ((match mx with
      | some v => Instr.sliceBound v cap (if isS then .slice3Acap else .slice3Alen)
      | none => pure cap : Sem Nat) >>= fun m =>
    (match hi, mx with
      | some v, some _ => Instr.sliceBound v m .slice3B
      | some v, none => Instr.sliceBound v m (if isS then .sliceAcap else .sliceAlen)
      | none, none => pure len
      | none, some _ => stuck "Slice: max without high" : Sem Nat) >>= fun h =>
    (match lo with
      | some v => Instr.sliceBound v h (if mx.isSome then .slice3C else .sliceB)
      | none => pure 0 : Sem Nat) >>= fun l => pure (l, h, m)) := by
  unfold Instr.sliceBounds
  cases mx <;> cases hi <;> cases lo <;> rfl

/-- The three bounds of a slice expression, as the model takes them. -/
theorem bounds_run {isS : Bool} {len cap : Nat} {lo hi mx : Option Value} (w : World) {m : Option Nat} (hm : boundOr mx cap cap = some m) :
    match m with
    | none => ∃ v w', (Instr.sliceBounds isS len cap (lo.map (conc μ)) (hi.map (conc μ)) (mx.map (conc μ))).run P w = .halt (.panic v) w' ∧ (w' = w ∨ w' = w.drew)
    | some m => ∀ hh, boundOr hi len m = some hh → (hi = none → mx = none) → match hh with
      | none => ∃ v w', (Instr.sliceBounds isS len cap (lo.map (conc μ)) (hi.map (conc μ)) (mx.map (conc μ))).run P w = .halt (.panic v) w' ∧ (w' = w ∨ w' = w.drew)
      | some hh => ∀ l, boundOr lo 0 hh = some l → match l with
        | none => ∃ v w', (Instr.sliceBounds isS len cap (lo.map (conc μ)) (hi.map (conc μ)) (mx.map (conc μ))).run P w = .halt (.panic v) w' ∧ (w' = w ∨ w' = w.drew)
        | some l => (Instr.sliceBounds isS len cap (lo.map (conc μ)) (hi.map (conc μ)) (mx.map (conc μ))).run P w = .ok (l, hh, m) w := by
  -- the first bound
  have M : match m with
      | none => ∃ v w', (match mx.map (conc μ) with
          | some v => Instr.sliceBound v cap (if isS then .slice3Acap else .slice3Alen)
          | none => pure cap : Sem Nat).run P w = .halt (.panic v) w' ∧ (w' = w ∨ w' = w.drew)
      | some m => (match mx.map (conc μ) with
          | some v => Instr.sliceBound v cap (if isS then .slice3Acap else .slice3Alen)
          | none => pure cap : Sem Nat).run P w = .ok m w := by
    cases mx with
    | none => cases hm; rfl
    | some x =>
      have := bound_run (μ := μ) (P := P) hm (if isS then .slice3Acap else .slice3Alen) w
      cases m with
      | none => exact this
      | some m => exact this.1
  cases m with
  | none =>
    obtain ⟨v, w', e1, e2⟩ := M
    refine ⟨v, w', ?_, e2⟩
    rw [sliceBounds_eq, Sem.run_bind, e1]; rfl
  | some m =>
    intro hh hhb himx
    have H : match hh with
        | none => ∃ v w', (match hi.map (conc μ), mx.map (conc μ) with
          | some v, some _ => Instr.sliceBound v m .slice3B
          | some v, none => Instr.sliceBound v m (if isS then .sliceAcap else .sliceAlen)
          | none, none => pure len
          | none, some _ => stuck "Slice: max without high" : Sem Nat).run P w = .halt (.panic v) w' ∧ (w' = w ∨ w' = w.drew)
        | some hh => (match hi.map (conc μ), mx.map (conc μ) with
          | some v, some _ => Instr.sliceBound v m .slice3B
          | some v, none => Instr.sliceBound v m (if isS then .sliceAcap else .sliceAlen)
          | none, none => pure len
          | none, some _ => stuck "Slice: max without high" : Sem Nat).run P w = .ok hh w := by
      cases hi with
      | none =>
        have := himx rfl; subst this
        cases hhb; rfl
      | some x =>
        cases mx with
        | none =>
          have := bound_run (μ := μ) (P := P) hhb (if isS then .sliceAcap else .sliceAlen) w
          cases hh with
          | none => exact this
          | some m => exact this.1
        | some y =>
          have := bound_run (μ := μ) (P := P) hhb .slice3B w
          cases hh with
          | none => exact this
          | some m => exact this.1
    cases hh with
    | none =>
      obtain ⟨v, w', e1, e2⟩ := H
      refine ⟨v, w', ?_, e2⟩
      rw [sliceBounds_eq, Sem.run_bind, M, Result.andThen_ok, Sem.run_bind, e1]; rfl
    | some hh =>
      intro l hl
      have L : match l with
          | none => ∃ v w', (match lo.map (conc μ) with
            | some v => Instr.sliceBound v hh (if (mx.map (conc μ)).isSome then .slice3C else .sliceB)
            | none => pure 0 : Sem Nat).run P w = .halt (.panic v) w' ∧ (w' = w ∨ w' = w.drew)
          | some l => (match lo.map (conc μ) with
            | some v => Instr.sliceBound v hh (if (mx.map (conc μ)).isSome then .slice3C else .sliceB)
            | none => pure 0 : Sem Nat).run P w = .ok l w := by
        cases lo with
        | none => cases hl; rfl
        | some x =>
          have := bound_run (μ := μ) (P := P) hl (if (mx.map (conc μ)).isSome then .slice3C else .sliceB) w
          cases l with
          | none => exact this
          | some m => exact this.1
      cases l with
      | none =>
        obtain ⟨v, w', e1, e2⟩ := L
        refine ⟨v, w', ?_, e2⟩
        rw [sliceBounds_eq, Sem.run_bind, M, Result.andThen_ok, Sem.run_bind, H, Result.andThen_ok, Sem.run_bind, e1]; rfl
      | some l =>
        show (Instr.sliceBounds isS len cap (lo.map (conc μ)) (hi.map (conc μ)) (mx.map (conc μ))).run P w = .ok (l, hh, m) w
        rw [sliceBounds_eq, Sem.run_bind, M, Result.andThen_ok, Sem.run_bind, H, Result.andThen_ok, Sem.run_bind, L]; rfl
end Vai

namespace Vai
open Go Go.RowKit

variable {P : Program} {G : Sym} {μ : Mu} {N0 : Nat} {σ : Mem} {w : World}

theorem bound_le {x : Value} {y i : Nat} (h : bound x y = some (some i)) : i ≤ y := by
  unfold bound at h
  cases x <;> (try simp only at h) <;> (try cases h)
  case int k j =>
    cases j with
    | ofNat j =>
      simp only [natBle, cond_decide] at h
      by_cases hj : j ≤ y
      · rw [if_pos hj] at h; cases h; exact hj
      · rw [if_neg hj] at h; cases h
    | negSucc j => cases h
theorem bound_mono {x : Value} {y y' i : Nat} (h : bound x y = some (some i)) (hy : i ≤ y') : bound x y' = some (some i) := by
  unfold bound at h ⊢
  cases x <;> (try simp only at h) <;> (try cases h)
  case int k j =>
    cases j with
    | ofNat j =>
      simp only [natBle, cond_decide] at h ⊢
      by_cases hj : j ≤ y
      · rw [if_pos hj] at h; cases h; rw [if_pos hy]
      · rw [if_neg hj] at h; cases h
    | negSucc j => cases h
theorem boundOr_mono {x : Option Value} {d y y' i : Nat} (h : boundOr x d y = some (some i)) (hy : i ≤ y') : boundOr x d y' = some (some i) := by
  cases x with
  | none => exact h
  | some x => exact bound_mono h hy
theorem boundOr_le {x : Option Value} {d y i : Nat} (h : boundOr x d y = some (some i)) (hd : d ≤ y) : i ≤ y := by
  cases x with
  | none => cases h; exact hd
  | some x => exact bound_le h

theorem mk_extract (s : ByteArray) (l h : Nat) : (⟨⟨(s.data.toList.drop l).take (h - l)⟩⟩ : ByteArray) = s.extract l h := ba_ext (by rw [Lib.extract_data])

theorem aSliceStr_ok (h : Rel G μ N0 σ w) {t : TypeId} (hu : P.underlying t = some .string) {s : ByteArray} {lo hi : Option Value} {v : NX} (hb : aSliceStr s lo hi = some v) :
    OpOk P G μ N0 σ w (do pure (.value (← Instr.sliceAt t (.string s) (lo.map (conc μ)) (hi.map (conc μ)) none))) (v, σ) := by
  have start : (do pure (.value (← Instr.sliceAt t (.string s) (lo.map (conc μ)) (hi.map (conc μ)) none)) : Sem Next).run P w =
      ((Instr.sliceBounds false s.size s.size (lo.map (conc μ)) (hi.map (conc μ)) none).run P w).andThen fun b w' => .ok (.value (.string (s.extract b.1 b.2.1))) w' := by
    simp only [Instr.sliceAt, Instr.slice, Sem.run_bind, rUnd hu, Result.andThen_ok]
    simp only [Option.isSome_none, Bool.false_eq_true, if_false, Sem.run_bind]
    cases (Instr.sliceBounds false s.size s.size (lo.map (conc μ)) (hi.map (conc μ)) none).run P w <;> rfl
  have B := @bounds_run P μ false s.size s.size lo hi none w (some s.size) rfl
  unfold aSliceStr at hb
  cases h1 : boundOr hi s.data.toList.length s.data.toList.length with
  | none => rw [h1] at hb; cases hb
  | some hh =>
    have B1 := B hh h1 (fun _ => rfl)
    rw [h1] at hb
    cases hh with
    | none =>
      cases hb
      obtain ⟨x, w', e1, e2⟩ := B1
      refine OpOk.bounds h ⟨x, w', ?_, e2⟩
      rw [start]; rw [show (none : Option Value) = Option.map (conc μ) none from rfl, e1]; rfl
    | some hh =>
      simp only at hb
      cases h2 : boundOr lo 0 hh with
      | none => rw [h2] at hb; cases hb
      | some l =>
        have B2 := B1 l h2
        rw [h2] at hb
        cases l with
        | none =>
          cases hb
          obtain ⟨x, w', e1, e2⟩ := B2
          refine OpOk.bounds h ⟨x, w', ?_, e2⟩
          rw [start]; rw [show (none : Option Value) = Option.map (conc μ) none from rfl, e1]; rfl
        | some l =>
          cases hb
          refine OpOk.pure h ?_ trivial
          rw [start]; rw [show (none : Option Value) = Option.map (conc μ) none from rfl, B2]
          rw [mk_extract]; rfl

/-- A slice expression over a slice or over an array's place, the bounds told. -/
theorem slice_fin (h : Rel G μ N0 σ w) {a : Addr} {l hh m size : Nat} {s : Sem Next} (hsp : a.spot = none) (hx : a.block < σ.nxt)
    (hs : s.run P w = .ok (.value (.slice (some (if m = l then μ.addr a else (μ.addr a).add (l * size))) (hh - l) (m - l))) w) (hm : m < HALF) :
    OpOk P G μ N0 σ w s (.val (.slice (some (cond (Nat.beq m l) a (a.add (l * size)))) (hh - l) (m - l)), σ) := by
  refine OpOk.pure h ?_ ?_
  · rw [hs]
    simp only [conc_slice, natBeq, cond_decide]
    rw [cap_small _ _ _ (by omega)]
    by_cases e : m = l
    · simp [e]
    · simp [e, Mu.addr_add _ _ _ hsp]
  · show (cond (Nat.beq m l) a (a.add (l * size))).block < _
    simp only [natBeq, cond_decide]
    split
    · exact hx
    · rw [add_block]; exact hx
end Vai

namespace Vai
open Go Go.RowKit

variable {P : Program} {G : Sym} {μ : Mu} {N0 : Nat} {σ : Mem} {w : World}

theorem run_slice_arr {t : TypeId} {n : Nat} {elem : TypeId} {size : Nat} (hu : P.underlying t = some (.array n elem)) (hs : szOf P elem = some size) (a : Addr) (lo hi mx : Option Value) (w : World) :
    (do pure (.value (← Instr.sliceAt t (.pointer (some a)) lo hi mx)) : Sem Next).run P w =
      ((Instr.sliceBounds false n n lo hi mx).run P w).andThen fun b w' => .ok (.value (.slice (some (if b.2.2 = b.1 then a else a.add (b.1 * size))) (b.2.1 - b.1) (b.2.2 - b.1))) w' := by
  simp only [Instr.sliceAt, Sem.run_bind, rUnd hu, Result.andThen_ok, Instr.sureAddr, Sem.run_pure]
  cases (Instr.sliceBounds false n n lo hi mx).run P w with
  | ok b w' => simp [rSize hs]
  | halt x w' => rfl

theorem run_slice_sl {t : TypeId} {elem : TypeId} {size : Nat} (hu : P.underlying t = some (.slice elem)) (hs : szOf P elem = some size) (base : Option Addr) (len cap : Nat) (lo hi mx : Option Value) (w : World) :
    (do pure (.value (← Instr.sliceAt t (.slice base len cap) lo hi mx)) : Sem Next).run P w =
      ((Instr.sliceBounds true len cap lo hi mx).run P w).andThen fun b w' => .ok (.value (.slice (if b.2.2 = b.1 then base else base.map (·.add (b.1 * size))) (b.2.1 - b.1) (b.2.2 - b.1))) w' := by
  simp only [Instr.sliceAt, Instr.slice, Sem.run_bind, rUnd hu, Result.andThen_ok]
  cases (Instr.sliceBounds true len cap lo hi mx).run P w with
  | ok b w' => simp [rSize hs]
  | halt x w' => rfl

theorem exactSl_ok (h : Rel G μ N0 σ w) {s : Sem Next} {isS : Bool} {a : Addr} {len cap size : Nat} {lo hi mx : Option Value} {v : NX} (hx : a.block < σ.nxt) (hc : cap < HALF)
    (hs : s.run P w = ((Instr.sliceBounds isS len cap (lo.map (conc μ)) (hi.map (conc μ)) (mx.map (conc μ))).run P w).andThen fun b w' => .ok (.value (.slice (some (if b.2.2 = b.1 then μ.addr a else (μ.addr a).add (b.1 * size))) (b.2.1 - b.1) (b.2.2 - b.1))) w')
    (hb : exactSl a len cap size lo hi mx = some v) : OpOk P G μ N0 σ w s (v, σ) := by
  unfold exactSl at hb
  cases hsp : a.spot with
  | some s => rw [hsp] at hb; cases hb
  | none =>
  rw [hsp] at hb; simp only at hb
  cases hm : boundOr mx cap cap with
  | none => rw [hm] at hb; cases hb
  | some m =>
    have B := @bounds_run P μ isS len cap lo hi mx w m hm
    rw [hm] at hb
    cases m with
    | none =>
      cases hb
      obtain ⟨x, w', e1, e2⟩ := B
      exact OpOk.bounds h ⟨x, w', by rw [hs, e1]; rfl, e2⟩
    | some m =>
      have hml : m ≤ cap := boundOr_le hm (Nat.le_refl _)
      simp only at hb
      have himx : hi = none → mx = none := by
        intro e
        subst e
        cases mx with
        | none => rfl
        | some y => first | cases hb | (simp only at hb; cases hb)
      cases hh : boundOr hi len m with
      | none =>
        rw [hh] at hb
        cases mx <;> cases hi <;> cases hb
      | some hq =>
        have B1 := B hq hh himx
        rw [hh] at hb
        cases hq with
        | none =>
          have : v = .panic := by
            cases mx <;> cases hi <;> simp at hb <;> first | exact hb.symm | (exfalso; simp at himx)
          subst this
          obtain ⟨x, w', e1, e2⟩ := B1
          exact OpOk.bounds h ⟨x, w', by rw [hs, e1]; rfl, e2⟩
        | some hq =>
          have hb' : (match boundOr lo 0 hq with
              | some (some l) => some (NX.val (.slice (some (cond (Nat.beq m l) a (a.add (l * size)))) (hq - l) (m - l)))
              | some none => some .panic
              | none => none) = some v := by
            cases mx <;> cases hi <;> first | exact hb | (exfalso; simp at himx)
          cases hl : boundOr lo 0 hq with
          | none => rw [hl] at hb'; cases hb'
          | some l =>
            have B2 := B1 l hl
            rw [hl] at hb'
            cases l with
            | none =>
              cases hb'
              obtain ⟨x, w', e1, e2⟩ := B2
              exact OpOk.bounds h ⟨x, w', by rw [hs, e1]; rfl, e2⟩
            | some l =>
              cases hb'
              exact slice_fin h hsp hx (by rw [hs, B2]; rfl) (by omega)

theorem grown_ok (h : Rel G μ N0 σ w) {s : Sem Next} {a : Addr} {len cap size : Nat} {lo hi mx : Option Value} {v : NX} {r : Row} (hsp : a.spot = none) (hx : a.block < σ.nxt)
    (ho : σ.objs.get a.block = some (.row r)) (hk : r.kind = .grown) (c1 : r.esz = size) (c2 : 0 < size) (c3 : a.off = (HUGE - cap) * size) (c4 : a.off + len * size ≤ r.n ∨ (hi.isSome = true ∧ a.off ≤ r.n)) (c5 : cap ≤ HUGE) (c6 : HALF ≤ cap)
    (hs : s.run P w = ((Instr.sliceBounds true len (μ.cap a.block cap) (lo.map (conc μ)) (hi.map (conc μ)) (mx.map (conc μ))).run P w).andThen fun b w' => .ok (.value (.slice (if b.2.2 = b.1 then (some (μ.addr a)) else (some (μ.addr a)).map (·.add (b.1 * size))) (b.2.1 - b.1) (b.2.2 - b.1))) w')
    (hb : grownSl a len cap size r.n lo hi mx = some v) : OpOk P G μ N0 σ w s (v, σ) := by
  obtain ⟨_, hwf, c, fr, hr⟩ := h.ob _ _ ho
  have hn : r.n ≤ 1099511627776 := hwf.2.2
  have hcap := (hr.cap hk).1
  rw [c1] at hcap
  have hcc : μ.cap a.block cap = (μ a.block).ecap - (HUGE - cap) := by unfold Mu.cap; rw [if_neg (by omega)]
  generalize hi' : HUGE - cap = i at *
  generalize hK : (r.n - a.off) / size = K at *
  have hK1 : K * size ≤ r.n - a.off := by rw [← hK]; exact Nat.div_mul_le_self _ _
  have hoff : a.off ≤ r.n := by
    rcases c4 with c4 | c4
    · omega
    · exact c4.2
  have hKe : i + K ≤ (μ a.block).ecap := by
    have : (i + K) * size ≤ (μ a.block).ecap * size := by rw [Nat.add_mul]; omega
    exact Nat.le_of_mul_le_mul_right this c2
  have hlenK : hi = none → len ≤ K := by
    intro e
    rw [e] at c4
    rcases c4 with c4 | c4
    · rw [← hK]; exact (Nat.le_div_iff_mul_le c2).2 (by omega)
    · simp at c4
  have hKn : K ≤ r.n := Nat.le_trans (Nat.le_trans (Nat.le_mul_of_pos_right K c2) hK1) (Nat.sub_le _ _)
  have hin : i ≤ r.n := Nat.le_trans (Nat.le_trans (Nat.le_mul_of_pos_right i c2) (by omega)) hoff
  have e1 := HALF_val
  have e2 := HUGE_val
  unfold grownSl at hb
  cases mx with
  | none =>
    simp only at hb
    rw [hK] at hb
    cases h1 : boundOr hi len K with
    | none => rw [h1] at hb; cases hb
    | some hh =>
      rw [h1] at hb
      cases hh with
      | none => cases hb
      | some hh =>
        simp only at hb
        have hhK : hh ≤ K := by
          have : ∀ hi', boundOr hi' len K = some (some hh) → (hi' = none → len ≤ K) → hh ≤ K := by
            intro hi' q1 q2
            cases hi' with
            | none => exact boundOr_le q1 (q2 rfl)
            | some v => exact bound_le q1
          exact this hi h1 hlenK
        cases h2 : boundOr lo 0 hh with
        | none => rw [h2] at hb; cases hb
        | some l =>
          rw [h2] at hb
          cases l with
          | none => cases hb
          | some l =>
            simp only [natBle, cond_decide] at hb
            by_cases h3 : (l + 1) * size ≤ r.n - a.off
            · rw [if_pos h3] at hb; cases hb
              have hlK : l + 1 ≤ K := by rw [← hK]; exact (Nat.le_div_iff_mul_le c2).2 h3
              have B := @bounds_run P μ true len (μ.cap a.block cap) lo hi none w (some (μ.cap a.block cap)) rfl (some hh) (boundOr_mono h1 (by omega)) (fun _ => rfl) (some l) h2
              refine OpOk.pure h ?_ (show (a.add (l * size)).block < _ by rw [add_block]; exact hx)
              rw [hs]
              rw [show (none : Option Value).map (conc μ) = none from rfl] at B ⊢
              rw [B]
              simp only [Result.andThen_ok, conc_slice, add_block]
              rw [if_neg (by omega)]
              simp only [Option.map_some, Mu.addr_add _ _ _ hsp]
              congr 3
              unfold Mu.cap
              rw [if_neg (by omega), if_neg (by omega)]
              omega
            · rw [if_neg h3] at hb
              have hlh : l ≤ hh := boundOr_le h2 (Nat.zero_le _)
              have B := @bounds_run P μ true len (μ.cap a.block cap) lo hi none w (some (μ.cap a.block cap)) rfl (some hh) (boundOr_mono h1 (by omega)) (fun _ => rfl) (some l) h2
              rw [show (none : Option Value).map (conc μ) = none from rfl] at B hs
              rw [B] at hs
              simp only [Result.andThen_ok] at hs
              simp only [natBeq, natBlt, cond_decide] at hb
              by_cases hl0 : l = 0
              · rw [if_pos hl0] at hb; cases hb
                subst hl0
                refine OpOk.pure h ?_ hx
                rw [hs, conc_slice]
                congr 3
                split
                · rfl
                · simp [Addr.add]
              · rw [if_neg hl0] at hb
                by_cases hal : a.off < 1099511627776
                · rw [if_pos hal] at hb; cases hb
                  refine OpOk.pure h ?_ hx
                  rw [hs, conc_slice, hi']
                  have hq : ((i + l) * 1099511627776 + a.off) / 1099511627776 = i + l := by omega
                  have hr' : ((i + l) * 1099511627776 + a.off) % 1099511627776 = a.off := by omega
                  have hcl : μ.cap a.block (cap - l) = μ.cap a.block cap - l := by
                    rw [hcc]
                    unfold Mu.cap
                    rw [if_neg (by omega)]
                    omega
                  simp only [Mu.addr, hq, hr', hcl]
                  congr 3
                  by_cases he : (μ a.block).ecap = i + l
                  · rw [if_pos (by rw [hcc]; omega), if_pos he, hsp]
                  · rw [if_neg (by rw [hcc]; omega), if_neg he, hsp]
                    simp only [Option.map_some, Addr.add]
                    split
                    · rename_i e0; simp [e0]
                    · simp [Nat.add_assoc]
                · rw [if_neg hal] at hb; cases hb
  | some mv =>
    simp only at hb
    rw [hK] at hb
    cases h1 : bound mv K with
    | none => rw [h1] at hb; cases hb
    | some m =>
      rw [h1] at hb
      cases m with
      | none => cases hb
      | some m =>
        simp only at hb
        have hmK : m ≤ K := bound_le h1
        cases hi with
        | none => cases hb
        | some hv =>
          simp only at hb
          cases h2 : bound hv m with
          | none => rw [h2] at hb; cases hb
          | some hh =>
            rw [h2] at hb
            cases hh with
            | none => cases hb
            | some hh =>
              simp only at hb
              cases h3 : boundOr lo 0 hh with
              | none => rw [h3] at hb; cases hb
              | some l =>
                rw [h3] at hb
                cases l with
                | none => cases hb
                | some l =>
                  cases hb
                  have B := @bounds_run P μ true len (μ.cap a.block cap) lo (some hv) (some mv) w (some m) (bound_mono h1 (by omega)) (some hh) h2 (fun e => by cases e) (some l) h3
                  refine slice_fin h hsp hx ?_ (by omega)
                  rw [hs, B]
                  simp only [Result.andThen_ok]
                  congr 3
                  split <;> rfl

theorem aSlice_ok (h : Rel G μ N0 σ w) {t : TypeId} {x : Value} {lo hi mx : Option Value} {v : NX} (hb : aSlice P σ t x lo hi mx = some v) (hx : wf σ.nxt x) :
    OpOk P G μ N0 σ w (do pure (.value (← Instr.sliceAt t (conc μ x) (lo.map (conc μ)) (hi.map (conc μ)) (mx.map (conc μ))))) (v, σ) := by
  unfold aSlice at hb
  cases hu : P.underlying t with
  | none => rw [hu] at hb; cases hb
  | some d =>
    rw [hu] at hb
    cases d <;> (try simp only at hb) <;> (try cases hb)
    case string =>
      cases x <;> (try simp only at hb) <;> (try cases hb)
      case string s =>
        cases mx with
        | some m => cases hb
        | none => exact aSliceStr_ok h hu hb
    case array n elem =>
      cases x <;> (try simp only at hb) <;> (try cases hb)
      case pointer a =>
        cases a with
        | none => cases hb
        | some a =>
          cases hs : szOf P elem with
          | none => rw [hs] at hb; cases hb
          | some size =>
            rw [hs] at hb; simp only [natBlt, cond_decide] at hb
            by_cases hc : n < HALF
            · rw [if_pos hc] at hb
              exact exactSl_ok h hx hc (run_slice_arr hu hs (μ.addr a) _ _ _ w) hb
            · rw [if_neg hc] at hb; cases hb
    case slice elem =>
      cases x <;> (try simp only at hb) <;> (try cases hb)
      case slice base len cap =>
        cases hs : szOf P elem with
        | none => rw [hs] at hb; cases base <;> cases hb
        | some size =>
          rw [hs] at hb
          cases base with
          | none =>
            simp only at hb
            -- a slice that is nil
            have hs' := run_slice_sl hu hs none len cap (lo.map (conc μ)) (hi.map (conc μ)) (mx.map (conc μ)) w
            cases hm : boundOr mx cap cap with
            | none => rw [hm] at hb; cases hb
            | some m =>
              have B := @bounds_run P μ true len cap lo hi mx w m hm
              rw [hm] at hb
              cases m with
              | none =>
                cases hb
                obtain ⟨y, w', e1, e2⟩ := B
                exact OpOk.bounds h ⟨y, w', by rw [show conc μ (.slice none len cap) = .slice none len cap from rfl, hs', e1]; rfl, e2⟩
              | some m =>
                simp only at hb
                have himx : hi = none → mx = none := by
                  intro e
                  subst e
                  cases mx with
                  | none => rfl
                  | some y => first | cases hb | (simp only at hb; cases hb)
                cases hh : boundOr hi len m with
                | none =>
                  rw [hh] at hb
                  cases mx <;> cases hi <;> cases hb
                | some hq =>
                  have B1 := B hq hh himx
                  rw [hh] at hb
                  cases hq with
                  | none =>
                    have : v = .panic := by
                      cases mx <;> cases hi <;> simp at hb <;> first | exact hb.symm | (exfalso; simp at himx)
                    subst this
                    obtain ⟨y, w', e1, e2⟩ := B1
                    exact OpOk.bounds h ⟨y, w', by rw [show conc μ (.slice none len cap) = .slice none len cap from rfl, hs', e1]; rfl, e2⟩
                  | some hq =>
                    have hb' : (match boundOr lo 0 hq with
                        | some (some l) => some (NX.val (.slice none (hq - l) (m - l)))
                        | some none => some .panic
                        | none => none) = some v := by
                      cases mx <;> cases hi <;> first | exact hb | (exfalso; simp at himx)
                    cases hl : boundOr lo 0 hq with
                    | none => rw [hl] at hb'; cases hb'
                    | some l =>
                      have B2 := B1 l hl
                      rw [hl] at hb'
                      cases l with
                      | none =>
                        cases hb'
                        obtain ⟨y, w', e1, e2⟩ := B2
                        exact OpOk.bounds h ⟨y, w', by rw [show conc μ (.slice none len cap) = .slice none len cap from rfl, hs', e1]; rfl, e2⟩
                      | some l =>
                        cases hb'
                        refine OpOk.pure h ?_ trivial
                        rw [show conc μ (.slice none len cap) = .slice none len cap from rfl, hs', B2]
                        simp [conc]
          | some a =>
            simp only [natBlt, cond_decide] at hb
            by_cases hc : cap < HALF
            · rw [if_pos hc] at hb
              have hs' := run_slice_sl hu hs (some (μ.addr a)) len cap (lo.map (conc μ)) (hi.map (conc μ)) (mx.map (conc μ)) w
              refine exactSl_ok (isS := true) h hx hc ?_ hb
              rw [conc_slice, cap_small _ _ _ hc, hs']
              congr 1; funext b w'; congr 3; split <;> rfl
            · rw [if_neg hc] at hb
              cases hsp : a.spot with
              | some q => rw [hsp] at hb; cases hb
              | none =>
                rw [hsp] at hb; try simp only at hb
                cases ho : σ.objs.get a.block with
                | none => rw [ho] at hb; cases hb
                | some o =>
                  rw [ho] at hb
                  cases o with
                  | row r =>
                    try simp only at hb
                    cases hk : r.kind with
                    | own => rw [hk] at hb; cases hb
                    | lit => rw [hk] at hb; cases hb
                    | ro => rw [hk] at hb; cases hb
                    | grown =>
                      rw [hk] at hb
                      simp only [natBeq, natBlt, natBle] at hb
                      by_cases hcc : r.esz = size ∧ 0 < size ∧ a.off = (HUGE - cap) * size ∧ (a.off + len * size ≤ r.n ∨ (hi.isSome = true ∧ a.off ≤ r.n)) ∧ cap ≤ HUGE
                      · obtain ⟨c1, c2, c3, c4, c5⟩ := hcc
                        have hc4 : (decide (a.off + len * size ≤ r.n) || (hi.isSome && decide (a.off ≤ r.n))) = true := by
                          rcases c4 with c4 | c4
                          · simp [c4]
                          · simp [c4.1, c4.2]
                        simp only [c1, c2, ← c3, hc4, c5, decide_true, Bool.and_self, cond_true] at hb
                        exact grown_ok h hsp hx ho hk c1 c2 c3 c4 c5 (by omega) (by rw [conc_slice]; exact run_slice_sl hu hs (some (μ.addr a)) len _ _ _ _ w) hb
                      · exfalso
                        have : ((decide (r.esz = size)) && (decide (0 < size) && (decide (a.off = (HUGE - cap) * size) && ((decide (a.off + len * size ≤ r.n) || (hi.isSome && decide (a.off ≤ r.n))) && decide (cap ≤ HUGE))))) = false := by
                          rw [Bool.eq_false_iff]; intro e; apply hcc; simpa using e
                        rw [this] at hb; cases hb
                  | _ => cases hb
end Vai

namespace Vai
open Go Go.RowKit

variable {P : Program} {G : Sym} {μ : Mu} {N0 : Nat} {σ : Mem} {w : World}

/-- Cells stored into one block, one behind the other. -/
theorem storeRaw (P : Program) (b o : Nat) (t : TypeId) (fr : Nat × Nat) : ∀ (vs : List Value) (i : Nat) (w : World) (c : Array Value), w.heap[b]? = some (.cells c t fr) → o + i + vs.length ≤ c.size →
    (∀ k, k < c.size → (decide (fr.1 ≤ k) && decide (k < fr.2)) = false) → (∀ v ∈ vs, v.oneCell' = true) →
    ∃ w' c', (Go.storeCells ⟨b, o, none⟩ vs i).run P w = .ok () w' ∧ w'.os = w.os ∧ w'.tape = w.tape ∧ w'.output = w.output ∧ w'.heap.size = w.heap.size ∧ (∀ b', b' ≠ b → w'.heap[b']? = w.heap[b']?) ∧
      w'.heap[b]? = some (.cells c' t fr) ∧ c'.size = c.size ∧ ∀ k, c'[k]? = if o + i ≤ k ∧ k < o + i + vs.length then vs[k - (o + i)]? else c[k]?
  | [], i, w, c, h, _, _, _ => ⟨w, c, rfl, rfl, rfl, rfl, rfl, fun _ _ => rfl, h, rfl, fun k => by rw [if_neg (by simp only [List.length_nil]; omega)]⟩
  | v :: vs, i, w, c, h, hl, hf, h1 => by
    simp only [List.length_cons] at hl
    have hadd : (⟨b, o, none⟩ : Addr).add i = ⟨b, o + i, none⟩ := by unfold Addr.add; split <;> simp [*]
    have hcell : w.cell? ⟨b, o + i, none⟩ = some c[o + i] := by
      unfold World.cell?; simp only; rw [h]; simp
    have hfro : w.frozen? ⟨b, o + i, none⟩ = false := by
      unfold World.frozen?; simp only; rw [h]; simp only; exact hf _ (by omega)
    have hnew : (w.setCell ⟨b, o + i, none⟩ v).heap[b]? = some (.cells (c.setIfInBounds (o + i) v) t fr) := by
      simp only [World.setCell, Array.getElem?_modify, if_true, h, Option.map_some, Option.isSome_none, Bool.false_eq_true, if_false]
    obtain ⟨w', c', e1, e2, e3, e4, e5, e6, e7, e8, e9⟩ := storeRaw P b o t fr vs (i + 1) (w.setCell ⟨b, o + i, none⟩ v) _ hnew (by simp; omega) (by simpa using hf) (fun x hx => h1 x (List.mem_cons_of_mem _ hx))
    refine ⟨w', c', ?_, e2, e3, e4, by simpa using e5, ?_, e7, by simpa using e8, ?_⟩
    · simp only [Go.storeCells, Sem.run_bind, hadd, run_store _ _ _ _ _ (h1 v (List.mem_cons_self ..)), hcell, hfro, Bool.false_eq_true, if_false, Result.andThen_ok]
      exact e1
    · intro b' hb'
      rw [e6 b' hb', Below.heap_setCell _ _ _ _ (by simpa using hb')]
    · intro k
      rw [e9 k]
      simp only [List.length_cons, Array.getElem?_setIfInBounds]
      by_cases c1 : k = o + i
      · subst c1
        rw [if_neg (by omega), if_pos rfl, if_pos (by omega), if_pos (by omega), Nat.sub_self]; rfl
      · by_cases c2 : o + (i + 1) ≤ k ∧ k < o + (i + 1) + vs.length
        · rw [if_pos c2, if_pos (by omega)]
          obtain ⟨m, rfl⟩ : ∃ m, k = o + (i + 1) + m := ⟨k - (o + (i + 1)), by omega⟩
          rw [show o + (i + 1) + m - (o + (i + 1)) = m from by omega, show o + (i + 1) + m - (o + i) = m + 1 from by omega]; rfl
        · rw [if_neg c2, if_neg (by omega), if_neg (by omega)]

/-- A row that is no longer written to. -/
theorem Rel.toRo (h : Rel G μ N0 σ w) {id : Nat} {r : Row} (ho : σ.objs.get id = some (.row r)) :
    Rel G μ N0 ⟨σ.nxt, σ.objs.set id (.row { r with kind := .ro })⟩ w ∧ Ext μ σ w μ ⟨σ.nxt, σ.objs.set id (.row { r with kind := .ro })⟩ w := by
  obtain ⟨hid, hwf, c, fr, hr⟩ := h.ob _ _ ho
  have hcap : id < 1099511627776 := Nat.lt_of_lt_of_le hid h.lim
  have get : ∀ j, (σ.objs.set id (.row { r with kind := .ro })).get j = if j = id then some (.row { r with kind := .ro }) else σ.objs.get j := fun j => T.get_set _ _ _ _ hcap
  refine ⟨⟨h.glob, h.gnxt, h.lim, ?_, ?_, h.base⟩, ⟨fun _ _ => rfl, Nat.le_refl _, rfl, rfl, rfl, Nat.le_refl _, fun _ _ _ => rfl, ?_, ?_⟩⟩
  · intro j o hj
    rw [get] at hj
    by_cases e : j = id
    · rw [if_pos e] at hj; cases hj; subst e
      exact ⟨hid, hwf, c, fr, ⟨hr.heap, hr.size, hr.cell, fun e => absurd rfl e, (fun e => by cases e), fun e => absurd rfl e, (fun e => by cases e)⟩⟩
    · rw [if_neg e] at hj; exact h.ob j o hj
  · intro i j o p hij hi hj li lj hb
    rw [get] at hi hj
    by_cases ei : i = id
    · subst ei
      rw [if_pos rfl] at hi; cases hi
      rw [if_neg (Ne.symm hij)] at hj
      rcases h.sep i j (.row r) p hij ho hj trivial lj hb with hs | hs
      · left; cases p <;> simp only [Shares] at hs ⊢; exact ⟨trivial, hs.2⟩
      · cases p <;> simp only [Shares] at hs
        left; exact ⟨rfl, .inl hs.1⟩
    · rw [if_neg ei] at hi
      by_cases ej : j = id
      · subst ej
        rw [if_pos rfl] at hj; cases hj
        rcases h.sep i j o (.row r) hij hi ho li trivial hb with hs | hs
        · cases o <;> simp only [Shares] at hs
          left; exact ⟨hs.1, .inl rfl⟩
        · cases o <;> simp only [Shares] at hs
          right; exact ⟨rfl, hs.2⟩
      · rw [if_neg ej] at hj
        exact h.sep i j o p hij hi hj li lj hb
  · intro j o hj hm
    right
    rw [get] at hj
    by_cases e : j = id
    · rw [if_pos e] at hj; cases hj; exact absurd rfl hm
    · rw [if_neg e] at hj; exact ⟨j, o, hj, hm, rfl⟩
  · intro j o hj hm
    right
    rw [get] at hj
    by_cases e : j = id
    · rw [if_pos e] at hj; cases hj; exact ⟨_, _, ho, trivial, by rw [e]⟩
    · rw [if_neg e] at hj; exact ⟨j, o, hj, hm, rfl⟩

/-- A new row with room behind it, in a new block. -/
theorem Rel.newGrown (h : Rel G μ N0 σ w) {σ' : Mem} {elem : TypeId} {esz : Nat} {cells rest : List Value} {anc : List Nat} {a : Addr} {ec : Nat}
    (hn : σ.newGrown elem esz cells anc = some (a, σ')) (hw : wfL σ.nxt cells) (ha : ∀ j ∈ anc, j < σ.nxt) (h1 : cells.length ≤ ec * esz) (h2 : ec * esz = cells.length + rest.length) (fr : Nat × Nat)
    (hfr : ∀ o, o < cells.length + rest.length → (decide (fr.1 ≤ o) && decide (o < fr.2)) = false) :
    ∃ μ', Rel G μ' N0 σ' (w.alloc (.cells ⟨cells.map (conc μ) ++ rest⟩ elem fr)) ∧ Ext μ σ w μ' σ' (w.alloc (.cells ⟨cells.map (conc μ) ++ rest⟩ elem fr)) ∧
      μ'.addr a = ⟨w.heap.size, 0, none⟩ ∧ a.block < σ'.nxt ∧ (μ' a.block).ecap = ec := by
  unfold Mem.newGrown at hn
  rw [natBlt, natBle] at hn
  by_cases hc : σ.nxt < 1099511627776 ∧ cells.length ≤ 1099511627776
  · rw [decide_eq_true hc.1, decide_eq_true hc.2] at hn
    simp only [Bool.and_self, cond_true, Option.some.injEq, Prod.mk.injEq] at hn
    obtain ⟨rfl, rfl⟩ := hn
    have hag := agree_upd μ σ.nxt ⟨w.heap.size, 0, ec⟩
    have := h.newOb hc.1 (.row ⟨.grown, elem, esz, cells.length, T.ofList cells 0 .leaf, anc⟩) (.cells ⟨cells.map (conc μ) ++ rest⟩ elem fr) ec
      ⟨fun i v hi => wf_ofList hw hc.2 i v hi, ha, hc.2⟩
      ⟨⟨cells.map (conc μ) ++ rest⟩, fr, by rw [upd_same]; exact heap_alloc_new _ _, by rw [upd_same]; simp, fun i hi => by
        rw [upd_same]
        simp only at hi
        refine ⟨cells[i], by rw [T.get_ofList _ _ _ _ (by omega), if_pos (by simpa using hi)]; simp [List.getElem?_eq_getElem hi], ?_⟩
        rw [conc_agree hag _ ((wfL_iff _ _).1 hw _ (List.getElem_mem hi))]
        rw [show (⟨cells.map (conc μ) ++ rest⟩ : Array Value) = (cells.map (conc μ) ++ rest).toArray from rfl, List.getElem?_toArray]
        simp only [Nat.zero_add]
        rw [List.getElem?_append_left (by simpa using hi)]
        simp [hi], (fun _ => by rw [upd_same]; exact h.base), (fun e => by cases e), fun _ o ho => hfr o (by simpa using ho), fun _ => by
        rw [upd_same]; simp only
        refine ⟨h1, ?_⟩
        show 0 + ec * esz ≤ (cells.map (conc μ) ++ rest).length
        simp; omega⟩
    refine ⟨_, this.1, this.2, ?_, Nat.lt_succ_self _, ?_⟩
    · simp [Mu.addr, upd_same]
    · simp [upd_same]
  · exfalso
    rcases Classical.not_and_iff_not_or_not.1 hc with h1 | h1 <;> simp [h1] at hn
end Vai

namespace Vai
open Go Go.RowKit

variable {P : Program} {G : Sym} {μ : Mu} {N0 : Nat} {σ : Mem} {w : World}

set_option maxHeartbeats 1000000 in
/-- An append in place, where the room was not known: the new row lies where the old one does. -/
theorem Rel.growIn (P : Program) (h : Rel G μ N0 σ w) {a : Addr} {r : Row} {size sLen i : Nat} {old new : List Value} {σ' : Mem} {b : Addr}
    (hx : a.spot = none) (ho : σ.objs.get a.block = some (.row r)) (hk : r.kind = .grown) (c1 : r.esz = size) (c3 : a.off = i * size) (c4 : a.off + sLen * size = r.n)
    (hold : σ.cells a (sLen * size) = some old) (hnl : ∃ n, new.length = n * size ∧ sLen + n ≤ (μ a.block).ecap - i) (hne : 0 < sLen * size + new.length) (c2 : 0 < size)
    (hnw : wfL σ.nxt new) (hone : ∀ v ∈ new, oneCell v = true)
    (hn : (⟨σ.nxt, σ.objs.set a.block (.row { r with kind := .ro })⟩ : Mem).newGrown r.elem size (old ++ new) (a.block :: r.anc) = some (b, σ')) :
    ∃ μ' w', (Go.storeCells ((μ.addr a).add (sLen * size)) (new.map (conc μ))).run P w = .ok () w' ∧ Rel G μ' N0 σ' w' ∧ Ext μ σ w μ' σ' w' ∧
      μ'.addr b = μ.addr a ∧ (μ' b.block).ecap = (μ a.block).ecap - i ∧ b.block < σ'.nxt := by
  obtain ⟨n, hnl, hroom⟩ := hnl
  obtain ⟨hid, hwf, c, fr, hr⟩ := h.ob _ _ ho
  have hkro : r.kind ≠ .ro := by rw [hk]; intro e; cases e
  have hcapid : a.block < 1099511627776 := Nat.lt_of_lt_of_le hid h.lim
  obtain ⟨hc1, hc2⟩ := hr.cap hk
  rw [c1] at hc1 hc2
  obtain ⟨hol, hoc⟩ := Mem.cells_spec hold
  have hoff : (μ a.block).sh + r.n + new.length ≤ c.size := by
    have : (sLen + n) * size ≤ ((μ a.block).ecap - i) * size := Nat.mul_le_mul_right _ hroom
    rw [Nat.add_mul, Nat.sub_mul] at this
    omega
  have hst : (μ.addr a).add (sLen * size) = ⟨(μ a.block).blk, (μ a.block).sh + r.n, none⟩ := by
    rw [Mu.addr_add _ _ _ hx, Mu.addr_none _ _ (add_spot _ _ hx), add_block, add_off, ← c4]
  obtain ⟨w', cc, e1, e2, e3, e4, e5, e6, e7, e8, e9⟩ := storeRaw P (μ a.block).blk ((μ a.block).sh + r.n) r.elem fr (new.map (conc μ)) 0 w c hr.heap (by simpa using hoff) (hr.free hkro)
    (fun v hv => by obtain ⟨x, hx1, rfl⟩ := List.mem_map.1 hv; exact oneCell_conc μ x (hone x hx1))
  simp only [Nat.add_zero, List.length_map] at e9
  unfold Mem.newGrown at hn
  rw [natBlt, natBle] at hn
  by_cases hc : σ.nxt < 1099511627776 ∧ (old ++ new).length ≤ 1099511627776
  rotate_left
  · exfalso
    rcases Classical.not_and_iff_not_or_not.1 hc with h1 | h1
    · simp only [h1, decide_false, Bool.false_and, cond_false] at hn; cases hn
    · simp only [h1, decide_false, Bool.and_false, cond_false] at hn; cases hn
  rw [decide_eq_true hc.1, decide_eq_true hc.2] at hn
  simp only [Bool.and_self, cond_true, Option.some.injEq, Prod.mk.injEq] at hn
  obtain ⟨rfl, rfl⟩ := hn
  have hag := agree_upd μ σ.nxt ⟨(μ a.block).blk, (μ a.block).sh + a.off, (μ a.block).ecap - i⟩
  have hoa : wfL σ.nxt old := by
    refine (wfL_iff _ _).2 fun v hv => ?_
    obtain ⟨j, hj⟩ := List.getElem?_of_mem hv
    exact (h.cell (hoc j v hj)).2
  have hall : wfL σ.nxt (old ++ new) := (wfL_iff _ _).2 fun v hv => by
    rcases List.mem_append.1 hv with h1 | h1
    · exact (wfL_iff _ _).1 hoa v h1
    · exact (wfL_iff _ _).1 hnw v h1
  have get : ∀ j, ((⟨σ.nxt, σ.objs.set a.block (.row { r with kind := .ro })⟩ : Mem).add (.row ⟨.grown, r.elem, size, (old ++ new).length, T.ofList (old ++ new) 0 .leaf, a.block :: r.anc⟩)).objs.get j =
      if j = σ.nxt then some (.row ⟨.grown, r.elem, size, (old ++ new).length, T.ofList (old ++ new) 0 .leaf, a.block :: r.anc⟩) else if j = a.block then some (.row { r with kind := .ro }) else σ.objs.get j := by
    intro j
    unfold Mem.add
    simp only
    rw [T.get_set (σ.objs.set a.block _) σ.nxt j _ hc.1, T.get_set σ.objs a.block j _ hcapid]
  -- who else lies in this block
  have beside : ∀ id o, id ≠ a.block → σ.objs.get id = some o → o.live → (μ id).blk = (μ a.block).blk → ∃ s, o = .row s ∧ s.kind = .ro ∧ id ∈ r.anc ∧ (μ id).sh + s.n ≤ (μ a.block).sh + r.n := by
    intro id o hne' hg hl e
    rcases h.sep id a.block o (.row r) hne' hg ho hl trivial e with hs | hs
    · cases o <;> simp only [Shares] at hs
      rename_i s
      rcases hs.2 with h2 | h2
      · exact absurd h2 hkro
      · exact ⟨s, rfl, hs.1, h2.2.1, h2.2.2⟩
    · cases o <;> simp only [Shares] at hs
      exact absurd hs.1 hkro
  have hnxt : a.block ≠ σ.nxt := by omega
  have hlen : (old ++ new).length = (sLen + n) * size := by rw [List.length_append, hol, hnl, Nat.add_mul]
  refine ⟨upd μ σ.nxt ⟨(μ a.block).blk, (μ a.block).sh + a.off, (μ a.block).ecap - i⟩, w', by rw [hst]; exact e1, ⟨?_, ?_, ?_, ?_, ?_, ?_⟩, ⟨hag, Nat.le_succ _, e2, e3, e4, by omega, ?_, ?_, ?_⟩, ?_, ?_, Nat.lt_succ_self _⟩
  · intro g hg; rw [upd_other _ _ _ _ (by have := h.gnxt; omega)]; exact h.glob g hg
  · exact Nat.le_succ_of_le h.gnxt
  · exact hc.1
  · intro id o hg
    rw [get] at hg
    by_cases en : id = σ.nxt
    · rw [if_pos en] at hg; cases hg; subst en
      refine ⟨Nat.lt_succ_self _, ⟨fun j v hj => Vai.wf_mono (Nat.le_succ _) v (wf_ofList hall hc.2 j v hj), ?_, hc.2⟩, cc, fr, ⟨?_, ?_, ?_, ?_, (fun e => by cases e), ?_, ?_⟩⟩
      · intro j hj
        rcases List.mem_cons.1 hj with rfl | hj
        · exact Nat.lt_succ_of_lt hid
        · exact Nat.lt_succ_of_lt (hwf.2.1 j hj)
      · rw [upd_same]; exact e7
      · rw [upd_same, e8]; simp only; rw [hlen, Nat.add_mul]; rw [hnl] at hoff; omega
      · intro j hj
        rw [upd_same]
        simp only at hj
        refine ⟨(old ++ new)[j], by rw [T.get_ofList _ _ _ _ (by omega), if_pos (by omega)]; simp [List.getElem?_eq_getElem hj], ?_⟩
        rw [conc_agree hag _ ((wfL_iff _ _).1 hall _ (List.getElem_mem hj))]
        simp only
        rw [e9]
        by_cases h1 : j < old.length
        · rw [if_neg (by omega), List.getElem_append_left h1]
          have hoj := hoc j old[j] (List.getElem?_eq_getElem h1)
          have hcell := (h.cell hoj).1
          unfold World.cell? at hcell
          rw [← Mu.addr_add _ _ _ hx] at hcell
          have hb : ((μ.addr a).add j).block = (μ a.block).blk := by rw [add_block]; rfl
          have hof : ((μ.addr a).add j).off = (μ a.block).sh + a.off + j := by rw [add_off, Mu.addr_none _ _ hx]
          have hsp : ((μ.addr a).add j).spot = none := add_spot _ _ rfl
          rw [hb, hr.heap] at hcell
          simp only [hsp, hof, Option.isSome_none, Bool.false_eq_true, if_false] at hcell
          exact hcell
        · rw [if_pos (by rw [List.length_append] at hj; omega), List.getElem_append_right (by omega), List.getElem?_map]
          rw [show (μ a.block).sh + a.off + j - ((μ a.block).sh + r.n) = j - old.length from by omega]
          rw [List.getElem?_eq_getElem (by rw [List.length_append] at hj; omega)]; rfl
      · intro _; rw [upd_same]; exact hr.old hkro
      · intro _ o ho'; exact hr.free hkro o (by omega)
      · intro _
        rw [upd_same]; simp only
        rw [hlen]
        refine ⟨Nat.mul_le_mul_right _ hroom, ?_⟩
        rw [e8, Nat.sub_mul]; omega
    · rw [if_neg en] at hg
      by_cases ea : id = a.block
      · rw [if_pos ea] at hg; cases hg; subst ea
        refine ⟨Nat.lt_succ_of_lt hid, Ob.wf_mono (Nat.le_succ _) hwf, cc, fr, ⟨?_, ?_, ?_, fun e => absurd rfl e, (fun e => by cases e), fun e => absurd rfl e, (fun e => by cases e)⟩⟩
        · rw [upd_other _ _ _ _ hnxt]; exact e7
        · rw [upd_other _ _ _ _ hnxt, e8]; exact hr.size
        · intro j hj
          rw [upd_other _ _ _ _ hnxt]
          obtain ⟨v, hv, hcv⟩ := hr.cell j hj
          refine ⟨v, hv, ?_⟩
          rw [conc_agree hag _ (hwf.1 _ _ hv), e9, if_neg (by simp only at hj; omega)]; exact hcv
      · rw [if_neg ea] at hg
        obtain ⟨h1, h2, h3⟩ := h.ob id o hg
        refine ⟨Nat.lt_succ_of_lt h1, Ob.wf_mono (Nat.le_succ _) h2, ?_⟩
        by_cases hl : o.live
        · by_cases hb : (μ id).blk = (μ a.block).blk
          · obtain ⟨s, rfl, hs1, hs2, hs3⟩ := beside id o ea hg hl hb
            obtain ⟨c2', fr2, hr2⟩ := h3
            have hsame : c2' = c ∧ s.elem = r.elem ∧ fr2 = fr := by
              have := hr2.heap; rw [hb, hr.heap] at this
              simp only [Option.some.injEq, Obj.cells.injEq] at this
              exact ⟨this.1.symm, this.2.1.symm, this.2.2.symm⟩
            obtain ⟨rfl, hel, rfl⟩ := hsame
            refine ⟨cc, fr2, ⟨?_, ?_, ?_, fun e => absurd hs1 e, (fun e => by rw [hs1] at e; cases e), fun e => absurd hs1 e, (fun e => by rw [hs1] at e; cases e)⟩⟩
            · rw [upd_other _ _ _ _ en, hb, hel]; exact e7
            · rw [upd_other _ _ _ _ en, e8]; exact hr2.size
            · intro j hj
              rw [upd_other _ _ _ _ en]
              obtain ⟨v, hv, hcv⟩ := hr2.cell j hj
              refine ⟨v, hv, ?_⟩
              rw [conc_agree hag _ (h2.1 _ _ hv), e9, if_neg (by omega)]; exact hcv
          · exact ObOk.keep hag h1 h2 (e6 _ hb) h3
        · cases o <;> simp [Ob.live] at hl; trivial
  · intro i' j o p hij hi hj li lj hb
    rw [get] at hi hj
    -- the new one beside another
    have newOther : ∀ id o, id ≠ σ.nxt → (if id = a.block then some (Ob.row { r with kind := .ro }) else σ.objs.get id) = some o → o.live → (μ id).blk = (μ a.block).blk →
        Shares (upd μ σ.nxt ⟨(μ a.block).blk, (μ a.block).sh + a.off, (μ a.block).ecap - i⟩) id σ.nxt o (.row ⟨.grown, r.elem, size, (old ++ new).length, T.ofList (old ++ new) 0 .leaf, a.block :: r.anc⟩) := by
      intro id o hne' hg hl hbb
      by_cases ea : id = a.block
      · rw [if_pos ea] at hg; cases hg; subst ea
        refine ⟨rfl, .inr ⟨rfl, List.mem_cons_self .., ?_⟩⟩
        rw [upd_same, upd_other _ _ _ _ hne']; simp only; rw [hlen, Nat.add_mul]; omega
      · rw [if_neg ea] at hg
        obtain ⟨s, rfl, hs1, hs2, hs3⟩ := beside id o ea hg hl hbb
        refine ⟨hs1, .inr ⟨rfl, List.mem_cons_of_mem _ hs2, ?_⟩⟩
        rw [upd_same, upd_other _ _ _ _ hne']; simp only; rw [hlen, Nat.add_mul]; omega
    by_cases ei : i' = σ.nxt
    · subst ei
      rw [if_pos rfl] at hi; cases hi
      rw [if_neg (Ne.symm hij)] at hj
      rw [upd_same, upd_other _ _ _ _ (Ne.symm hij)] at hb
      exact .inr (newOther j p (Ne.symm hij) hj lj hb.symm)
    · rw [if_neg ei] at hi
      by_cases ej : j = σ.nxt
      · subst ej
        rw [if_pos rfl] at hj; cases hj
        rw [upd_same, upd_other _ _ _ _ ei] at hb
        exact .inl (newOther i' o ei hi li hb)
      · rw [if_neg ej] at hj
        rw [upd_other _ _ _ _ ei, upd_other _ _ _ _ ej] at hb
        have R := (h.toRo ho).1
        have hi2 : (⟨σ.nxt, σ.objs.set a.block (.row { r with kind := .ro })⟩ : Mem).objs.get i' = some o := by rw [T.get_set σ.objs a.block i' _ hcapid]; exact hi
        have hj2 : (⟨σ.nxt, σ.objs.set a.block (.row { r with kind := .ro })⟩ : Mem).objs.get j = some p := by rw [T.get_set σ.objs a.block j _ hcapid]; exact hj
        rcases R.sep i' j o p hij hi2 hj2 li lj hb with hs | hs
        · exact .inl (Shares.keep hag (R.ob _ _ hi2).1 (R.ob _ _ hj2).1 hs)
        · exact .inr (Shares.keep hag (R.ob _ _ hj2).1 (R.ob _ _ hi2).1 hs)
  · have := h.base; omega
  · intro bb hbb hn'
    exact e6 bb fun e => hn' a.block _ ho hkro e.symm
  · intro id o hg hm
    right
    rw [get] at hg
    by_cases en : id = σ.nxt
    · subst en
      exact ⟨a.block, _, ho, hkro, by rw [upd_same]⟩
    · rw [if_neg en] at hg
      by_cases ea : id = a.block
      · rw [if_pos ea] at hg; cases hg; exact absurd rfl hm
      · rw [if_neg ea] at hg
        exact ⟨id, o, hg, hm, by rw [upd_other _ _ _ _ en]⟩
  · intro id o hg hm
    right
    rw [get] at hg
    by_cases en : id = σ.nxt
    · subst en
      exact ⟨a.block, _, ho, trivial, by rw [upd_same]⟩
    · rw [if_neg en] at hg
      by_cases ea : id = a.block
      · rw [if_pos ea] at hg; cases hg
        exact ⟨a.block, _, ho, trivial, by rw [upd_other _ _ _ _ en, ea]⟩
      · rw [if_neg ea] at hg
        exact ⟨id, o, hg, hm, by rw [upd_other _ _ _ _ en]⟩
  · simp only [Mu.addr, upd_same, Nat.add_zero]; rw [hx]
  · simp [upd_same]
end Vai

namespace Vai
open Go Go.RowKit

variable {P : Program} {G : Sym} {μ : Mu} {N0 : Nat} {σ : Mem} {w : World}

theorem oneCellL_spec : ∀ (l : List Value), oneCellL l = true → ∀ v ∈ l, oneCell v = true
  | [], _, v, hv => by simp at hv
  | x :: l, h, v, hv => by
    have h2 : oneCell x = true ∧ oneCellL l = true := by
      cases x with
      | agg _ => cases (show false = true from h)
      | tuple _ => cases (show false = true from h)
      | _ => exact ⟨rfl, h⟩
    rcases List.mem_cons.1 hv with rfl | h3
    · exact h2.1
    · exact oneCellL_spec l h2.2 v h3

theorem byteVals_conc (μ : Mu) (l : List UInt8) : (byteVals l).map (conc μ) = byteVals l := by
  unfold byteVals; rw [List.map_map]; rfl
theorem byteVals_wf (n : Nat) (l : List UInt8) : wfL n (byteVals l) := (wfL_iff _ _).2 fun v hv => by
  unfold byteVals at hv
  obtain ⟨x, _, rfl⟩ := List.mem_map.1 hv
  trivial

theorem srcCells_run (h : Rel G μ N0 σ w) {size n : Nat} {x : Value} {l : List Value} (hc : srcCells σ size n x = some l) :
    (Builtin.firstCells size n (conc μ x)).run P w = .ok ⟨l.map (conc μ)⟩ w ∧ wfL σ.nxt l := by
  unfold srcCells at hc
  cases x <;> (try simp only at hc) <;> (try cases hc)
  case slice a ln cp =>
    cases a with
    | none => cases hc; exact ⟨rfl, trivial⟩
    | some b =>
      simp only at hc
      obtain ⟨h1, h2⟩ := h.loadCells (P := P) hc
      exact ⟨by rw [conc_slice]; exact h1, h2⟩
  case string s =>
    refine ⟨?_, byteVals_wf _ _⟩
    rw [byteVals_conc]
    show Result.ok ((s.extract 0 n).data.map fun b => Value.int .u8 b.toNat) w = _
    congr 1
    apply Array.ext'
    simp only [Array.toList_map, Lib.extract_data, byteVals, List.drop_zero, Nat.sub_zero]
    rfl
theorem srcLen_run {x : Value} {n : Nat} (hl : srcLen x = some n) (w : World) : (Builtin.lenOf (conc μ x)).run P w = .ok n w := by
  unfold srcLen at hl
  cases x <;> (try simp only at hl) <;> (try cases hl)
  all_goals first | rfl | (rename_i a _; cases a <;> rfl)

theorem growBy_le (newLen : Nat) : ∀ (r c : Nat), c ≤ 2 * newLen + 192 → Builtin.growBy newLen r c ≤ 2 * newLen + 192
  | 0, c, h => h
  | r + 1, c, h => by
    unfold Builtin.growBy
    by_cases h1 : c ≥ newLen
    · rw [if_pos h1]; exact h
    · rw [if_neg h1]; exact growBy_le newLen r _ (by omega)
theorem nextcap_le {need cap : Nat} (h : cap < need) : Builtin.nextslicecap need cap ≤ 2 * need + 1024 := by
  unfold Builtin.nextslicecap
  split
  · omega
  · split
    · omega
    · have := growBy_le need 4 cap (by omega); omega

/-- The cells that the model appends. -/
def appd (elem : TypeId) (size n : Nat) (x : Value) (zb : Bool) : Sem (Array Value) :=
  if !zb then Builtin.firstCells size n x
  else if n * size = 0 then pure #[]
  else do pure (Builtin.zeroCells (← zeroValue elem).cells n)

/-- The last part of the model's append. -/
def appTail (elem : TypeId) (size : Nat) (base : Option Addr) (sLen sCap n bytes : Nat) (appended : Sem (Array Value)) : Sem Value :=
  if sLen + n ≤ sCap then
    appended >>= fun new => (match base with
      | some a => storeCells (a.add (sLen * size)) new.toList
      | none => pure ()) >>= fun _ => pure (.slice base (sLen + n) sCap)
  else
    choose (.appendCap (sLen + n) sCap elem) >>= fun newCap =>
    askRoom (newCap * bytes) >>= fun _ =>
    Builtin.firstCells size sLen (.slice base sLen sCap) >>= fun old =>
    appended >>= fun new => zeroValue elem >>= fun z =>
    newRow elem (old ++ new ++ Builtin.zeroCells z.cells (newCap - (sLen + n))) >>= fun a => pure (.slice (some a) (sLen + n) newCap)

theorem append_tail {sType xt elem : TypeId} {size bytes n sLen sCap : Nat} {base : Option Addr} {x : Value} {argTypes : Array TypeId} (ha0 : argTypes[0]? = some sType) (ha1 : argTypes[1]? = some xt)
    (hu : P.underlying sType = some (.slice elem)) (hs : szOf P elem = some size) (hy : bytesOfT P elem = some bytes) (hpos : 0 < bytes) (hlim : (2 * (sLen + n) + 1024) * bytes ≤ 140737488355328) (hneed : sLen + n ≤ 1099511627776)
    (ty : TypeId) (d : TypeDesc) (hd : P.underlying xt = some d) (hnd : ∀ k, d ≠ .int k) (w : World) (hl : (Builtin.lenOf x).run P w = .ok n w) :
    (Builtin.append_ argTypes ty #[.slice base sLen sCap, x]).run P w = (appTail elem size base sLen sCap n bytes (appd elem size n x false)).run P w := by
  obtain ⟨info, hi, hbb⟩ := bytesOfT_inv hy
  have hz : (match d with
    | .int _ => true
    | _ => false) = false := by cases d <;> first | rfl | exact absurd rfl (hnd _)
  unfold Builtin.append_
  simp only [ha0, ha1, List.getElem?_toArray, List.getElem?_cons_zero, List.getElem?_cons_succ, Sem.run_bind, rUnd hu, Result.andThen_ok, rSize hs, rUnd hd, hz, Sem.run_pure, hl, Bool.false_eq_true, if_false]
  unfold appTail
  by_cases hc : sLen + n ≤ sCap
  · simp only [hc, if_true, Sem.run_bind, appd]
    cases base with
    | none => rfl
    | some a => simp only [Sem.run_bind]
  · simp only [hc, if_false, Sem.run_bind, rInfo hi, Result.andThen_ok, false_or]
    rw [if_neg (by rw [hbb]; omega)]
    have hnc := nextcap_le (show sCap < sLen + n by omega)
    have hno : ¬ (Builtin.nextslicecap (sLen + n) sCap * info.bytes > 2 ^ 48) := by
      rw [hbb]
      have h1 : Builtin.nextslicecap (sLen + n) sCap * bytes ≤ (2 * (sLen + n) + 1024) * bytes := Nat.mul_le_mul_right _ hnc
      have h2 : (2 : Nat) ^ 48 = 281474976710656 := rfl
      omega
    rw [hbb] at hno
    simp only [Sem.run_bind, rInfo hi, Result.andThen_ok, hbb, appd, Bool.not_false, if_true, if_neg hno]
end Vai
