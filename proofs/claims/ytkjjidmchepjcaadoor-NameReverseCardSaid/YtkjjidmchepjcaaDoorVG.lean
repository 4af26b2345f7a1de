/- Operations over names: structs, makings; calls told ahead; contracts as summaries; variables that are told. -/
import Derived.Test.YtkjjidmchepjcaaDoorVF
import Derived.Handed
import Derived.Lib.LaidTab
import Derived.Stop.LaidErr
set_option linter.unusedVariables false
set_option linter.unusedSimpArgs false
namespace Vai
open Go Go.RowKit
variable {P : Program} {G : Sym} {μ : Mu} {N0 : Nat} {σ τ : Mem} {w : World}

/-- The lesser or the greater of two. -/
noncomputable def mmV (N : Names) (mx : Bool) (a b : Value) : Option Value :=
  match mx with
  | false => match binT N .leq a b with
    | some (.bool t) => some (cond t a b)
    | _ => none
  | true => match binT N .lss a b with
    | some (.bool t) => some (cond t b a)
    | _ => none
noncomputable def mmOp (N : Names) (op : Op) (vals : List Value) : Option Value :=
  match op, vals with
  | .call c, [a, b] => match c.callee with
    | .builtin .min => mmV N false a b
    | .builtin .max => mmV N true a b
    | _ => none
  | _, _ => none
theorem binV_cmp_int {op : BinOp} (ho : op = .leq ∨ op = .lss) {x y : Value} {t : Bool} (h : binV op x y = some (.bool t)) (hi : ∀ s, x ≠ .string s) : ∃ k a b, x = .int k a ∧ y = .int k b ∧ (op = .leq → t = !ilt b a) ∧ (op = .lss → t = ilt a b) := by
  unfold binV at h
  split at h
  · rename_i k a k' b
    have key : cond (Nat.beq (kCode k) (kCode k')) (match aInt op k a b with
      | some r => r
      | none => none) none = some (.bool t) := by
      rcases ho with rfl | rfl <;> exact h
    rw [natBeq, cond_decide] at key
    split at key
    · rename_i hk
      have hk' := kCode_inj hk
      subst hk'
      refine ⟨k, a, b, rfl, rfl, ?_, ?_⟩
      · intro e; subst e
        simp only [aInt] at key
        cases key; rfl
      · intro e; subst e
        simp only [aInt] at key
        cases key; rfl
    · cases key
  · rename_i a b
    exact absurd rfl (hi a)
  · cases h
/-- Whole numbers alone: texts have no lesser one here. -/
noncomputable def intN (N : Names) (v : Value) : Bool :=
  match v with
  | .int _ _ => true
  | .chan (some r) => match N.info (.chan (some r)) with
    | some ⟨some _, _, _⟩ => true
    | _ => false
  | _ => false
theorem intN_ok {N : Names} (h : NamesOk G N) {v : Value} (hb : intN N v = true) : ∀ s, gv G v ≠ .string s := by
  unfold intN at hb
  split at hb
  · intro s hs; cases hs
  · rename_i r
    split at hb
    · rename_i x y z hinf
      obtain ⟨h1, r', h2, h3, h4⟩ := Names.info_ok h hinf
      obtain ⟨k, lo, hi⟩ := x
      obtain ⟨n, g1, g2, g3⟩ := h4.rng _ _ _ rfl
      intro s hs
      rw [h3, g1] at hs; cases hs
    · cases hb
  · cases hb
noncomputable def mmN (N : Names) (op : Op) (vals : List Value) : Option Value :=
  match vals with
  | a :: l => cond (intN N a) (mmOp N op (a :: l)) none
  | [] => none
theorem mmN_ok {N : Names} (h : NamesOk G N) {X : Extn} {ρ : Operand → Value} {o : Oper} {v : Value} (hb : mmN N o.op ((opnds o.op).map ρ) = some v) :
    ∃ u, evalOp0 P X (fun x => gvr G (ρ x)) σ o = some (.val u, σ) ∧ SimV G u v := by
  obtain ⟨dst, op, ty, pos, after, guard⟩ := o
  simp only at hb
  unfold mmN at hb
  split at hb
  · rename_i a l hl
    cases hia : intN N a with
    | false => rw [hia] at hb; cases hb
    | true =>
      rw [hia, cond_true] at hb
      unfold mmOp at hb
      split at hb
      · rename_i c a' b hab
        cases hab
        cases hc : c.callee with
        | value f => rw [hc] at hb; cases hb
        | invoke r n => rw [hc] at hb; cases hb
        | builtin bi =>
          rw [hc] at hb
          simp only [opnds, hc, List.nil_append] at hl
          have step : ∀ mx, mmV N mx a b = some v → ∃ u, aMinMax mx ((c.args.toList.map ρ).map (gvr G)) = some (.val u) ∧ SimV G u v := by
            intro mx hm
            rw [hl]
            simp only [List.map_cons, List.map_nil]
            cases mx with
            | false =>
              simp only [mmV] at hm
              split at hm
              · rename_i t ht
                cases hm
                obtain ⟨k1, k2, k3, k4⟩ := binT_ok h ht
                obtain ⟨k, x, y, e1, e2, e3, -⟩ := binV_cmp_int (.inl rfl) k4 (intN_ok h hia)
                rw [gvr_name k1, gvr_name k2, e1, e2]
                simp only [aMinMax, cond_false]
                refine ⟨_, rfl, ?_⟩
                rw [e3 rfl]
                cases hlt : ilt y x with
                | true => exact SimV.names h.named rfl k2 e2.symm
                | false => exact SimV.names h.named rfl k1 e1.symm
              · cases hm
            | true =>
              simp only [mmV] at hm
              split at hm
              · rename_i t ht
                cases hm
                obtain ⟨k1, k2, k3, k4⟩ := binT_ok h ht
                obtain ⟨k, x, y, e1, e2, -, e3⟩ := binV_cmp_int (.inr rfl) k4 (intN_ok h hia)
                rw [gvr_name k1, gvr_name k2, e1, e2]
                simp only [aMinMax, cond_true]
                refine ⟨_, rfl, ?_⟩
                rw [e3 rfl]
                cases hlt : ilt x y with
                | true => exact SimV.names h.named rfl k2 e2.symm
                | false => exact SimV.names h.named rfl k1 e1.symm
              · cases hm
          have mm : c.args.toList.map (fun x => gvr G (ρ x)) = (c.args.toList.map ρ).map (gvr G) := by rw [List.map_map]; rfl
          unfold evalOp0
          simp only [hc, mm]
          cases bi <;> simp only at hb <;> (try (cases hb; done))
          · obtain ⟨u, h1, h2⟩ := step _ hb
            refine ⟨u, ?_, h2⟩
            simp only [aBuiltin, h1]
          · obtain ⟨u, h1, h2⟩ := step _ hb
            refine ⟨u, ?_, h2⟩
            simp only [aBuiltin, h1]
      · cases hb
  · cases hb

/-- A text over bytes of which some are names. -/
noncomputable def unsN (P : Program) (N : Names) (op : Op) (vals : List Value) (σ : Mem) : Option (NX × Mem) :=
  match op, vals with
  | .call c, [.pointer (some a), .int .i64 (.ofNat n)] => match c.callee, c.argTypes[0]? with
    | .builtin .unsafeString, some pt => match a.spot, σ.objs.get a.block, P.underlying pt with
      | none, some (.row r), some (.pointer e) => match r.kind with
        | .ro => none
        | _ => cond (Nat.beq r.elem e && (Nat.beq (P.cellsOf e) 1 && Nat.ble n 1048576)) (cond (Nat.beq n 0) none (match σ.cells a n with
          | some l => cond (allN (byteN N) l) (match mkS N l with
            | some v => some (.val v, ⟨σ.nxt, σ.objs.set a.block (.row { r with kind := .ro })⟩)
            | none => none) none
          | none => none)) none
      | _, _, _ => none
    | _, _ => none
  | _, _ => none
theorem cells_row {a : Addr} {n : Nat} {r : Row} (hs : a.spot = none) (hn : n ≠ 0) (ho : σ.objs.get a.block = some (.row r)) : σ.cells a n = cond (Nat.ble (a.off + n) r.n) (getN r.cells n a.off) none := by
  unfold Mem.cells
  rw [natBeq, decide_eq_false hn, cond_false, hs]
  simp only
  rw [ho]
theorem unsN_ok {N : Names} (h : NamesOk G N) (hr : Rel G μ N0 σ w) {X : Extn} {ρ : Operand → Value} {o : Oper} {nx : NX} {σ' : Mem} (hb : unsN P N o.op ((opnds o.op).map ρ) σ = some (nx, σ')) :
    ∃ τ u τ', SimM G σ τ ∧ evalOp0 P X (fun x => gvr G (ρ x)) τ o = some (u, τ') ∧ SimM G τ' σ' ∧ SimN G u nx := by
  obtain ⟨dst, op, ty, pos, after, guard⟩ := o
  simp only at hb
  unfold unsN at hb
  split at hb
  · rename_i c a n hl
    cases hc : c.callee with
    | value f => rw [hc] at hb; cases hb
    | invoke r' n' => rw [hc] at hb; cases hb
    | builtin bi =>
      rw [hc] at hb
      simp only [opnds, hc, List.nil_append] at hl
      split at hb
      · rename_i pt e1 e2
        cases e1
        split at hb
        · rename_i r e hs ho hu
          have hb : cond (Nat.beq r.elem e && (Nat.beq (P.cellsOf e) 1 && Nat.ble n 1048576)) (cond (Nat.beq n 0) none (match σ.cells a n with
            | some l => cond (allN (byteN N) l) (match mkS N l with
              | some v => some (NX.val v, (⟨σ.nxt, σ.objs.set a.block (.row { r with kind := .ro })⟩ : Mem))
              | none => none) none
            | none => none)) none = some (nx, σ') ∧ r.kind ≠ .ro := by
            cases hk : r.kind <;> rw [hk] at hb <;> first | (cases hb; done) | exact ⟨hb, fun e => by cases e⟩
          obtain ⟨hb, hk⟩ := hb
          cases hcond : (Nat.beq r.elem e && (Nat.beq (P.cellsOf e) 1 && Nat.ble n 1048576)) with
          | false => rw [hcond] at hb; cases hb
          | true =>
            rw [hcond, cond_true, natBeq, cond_decide] at hb
            split at hb
            · cases hb
            · rename_i hn
              cases hcl : σ.cells a n with
              | none => rw [hcl] at hb; cases hb
              | some l =>
                rw [hcl] at hb; simp only at hb
                cases hal : allN (byteN N) l with
                | false => rw [hal] at hb; cases hb
                | true =>
                  rw [hal, cond_true] at hb
                  cases hm : mkS N l with
                  | none => rw [hm] at hb; cases hb
                  | some v =>
                    rw [hm] at hb; cases hb
                    obtain ⟨k1, bs, k2⟩ := bytesN_ok h hal
                    obtain ⟨m1, m2⟩ := mkS_ok h hm k2
                    obtain ⟨τ, t1, t2⟩ := plainRow h hr.lim ho (hr.ob _ _ ho).1
                    have hcells : τ.cells a n = some (byteVals bs) := by
                      rw [cells_row hs hn t2]
                      rw [cells_row hs hn ho] at hcl
                      simp only
                      rw [natBle, cond_decide] at hcl ⊢
                      split at hcl
                      · rename_i hle
                        rw [if_pos hle]
                        rw [getN_mapT _ _ _ _ _ hcl, map_gvr k1, k2]
                      · cases hcl
                    obtain ⟨g1, g2⟩ := gv_named_of h m1
                    have hq : a.block < 1099511627776 := by have := (hr.ob _ _ ho).1; have := hr.lim; omega
                    refine ⟨τ, .val (.string ⟨⟨bs⟩⟩), ⟨τ.nxt, τ.objs.set a.block (.row { r with cells := r.cells.mapT (gvr G), kind := .ro })⟩, t1, ?_, ?_, by rw [← m2]; exact (SimV.names h.named m1 g1 g2.symm).symm⟩
                    · unfold evalOp0
                      have mm : c.args.toList.map (fun x => gvr G (ρ x)) = (c.args.toList.map ρ).map (gvr G) := by rw [List.map_map]; rfl
                      simp only [hc, mm, hl, List.map_cons, List.map_nil, gvr_ptr, gvr_int, aBuiltin]
                      unfold aUnsafeString
                      simp only [e2]
                      rw [natBeq, cond_decide, if_neg hn]
                      simp only [hu, hs, t2]
                      have hkk : ∀ (K : Kind) (z : Option (NX × Mem)), K ≠ .ro → (match K with
                        | .ro => none
                        | _ => z) = z := by intro K z hK; cases K <;> first | rfl | exact absurd rfl hK
                      first
                        | rw [hkk _ _ hk, hcond, cond_true, hcells]
                        | rw [hcond, cond_true, hcells]
                      simp only [bytesOf_byteVals]
                    · refine t1.symm.put ?_ hq
                      refine ⟨rfl, rfl, rfl, rfl, rfl, fun i => ?_⟩
                      simp only
                      rw [T.get_mapT]
                      cases r.cells.get i with
                      | none => trivial
                      | some v => exact (simV_gvr h v).symm
        · cases hb
      · cases hb
  · cases hb
end Vai

namespace Vai
open Go Go.RowKit
variable {P : Program} {G : Sym} {μ : Mu} {N0 : Nat} {σ τ : Mem} {w : World}

/-! Structs with names among their fields, held against each other. -/
/-- The same value, plain, also inside. -/
noncomputable def gvd (G : Sym) (v : Value) : Value := match v with
  | .agg cs => .agg ⟨cs.toList.map (gvr G)⟩
  | v => gvr G v
theorem simV_gvd {N : Names} (h : NamesOk G N) (v : Value) : SimV G v (gvd G v) := by
  cases v with
  | agg cs =>
    refine ⟨fun μ hg => ?_, fun n hn => ?_⟩
    · simp only [gvd, conc, concA_map]
      congr 1
      apply Array.ext'
      simp only [Array.toList_map, List.map_map]
      exact List.map_congr_left fun x _ => (simV_gvr h x).1 μ hg
    · show wfA n cs ↔ wfA n ⟨cs.toList.map (gvr G)⟩
      have e1 : wfA n cs ↔ ∀ x ∈ cs.toList, wf n x := by
        rw [wfA_iff]; simp
      have e2 : wfA n ⟨cs.toList.map (gvr G)⟩ ↔ ∀ x ∈ cs.toList.map (gvr G), wf n x := wfL_iff _ _
      rw [e1, e2]
      constructor
      · intro hx y hy
        obtain ⟨x, h1, rfl⟩ := List.mem_map.1 hy
        exact ((simV_gvr h x).2 n hn).1 (hx x h1)
      · intro hx x h1
        exact ((simV_gvr h x).2 n hn).2 (hx _ (List.mem_map_of_mem h1))
  | _ => exact simV_gvr h _
/-- The kind of a number, plain or by name. -/
noncomputable def kindN (N : Names) (v : Value) : Option IntKind :=
  match v with
  | .int k _ => some k
  | .chan (some r) => match N.info (.chan (some r)) with
    | some ⟨some (k, _, _), _, _⟩ => some k
    | _ => none
  | _ => none
theorem kindN_ok {N : Names} (h : NamesOk G N) {v : Value} {k : IntKind} (hb : kindN N v = some k) : nameB v = true ∧ ∃ n, gv G v = .int k n := by
  unfold kindN at hb
  split at hb
  · cases hb; exact ⟨rfl, _, rfl⟩
  · rename_i r
    split at hb
    · rename_i k' lo hi s e hinf
      cases hb
      obtain ⟨h1, r', h2, h3, h4⟩ := Names.info_ok h hinf
      obtain ⟨n, g1, g2, g3⟩ := h4.rng _ _ _ rfl
      exact ⟨h1, n, by rw [h3, g1]⟩
    · cases hb
  · cases hb
noncomputable def fieldN (P : Program) (N : Names) (t : TypeId) (x y : Value) : Option Bool :=
  match P.underlying t with
  | some .string => match sb N x, sb N y with
    | some la, some lb => cmpL N la lb
    | _, _ => none
  | some (.int _) => match kindN N x, kindN N y with
    | some k, some k' => cond (Nat.beq (kCode k) (kCode k')) (cmpB N x y) none
    | _, _ => none
  | some .bool => match x, y with
    | .bool a, .bool b => some (a == b)
    | _, _ => none
  | _ => none
noncomputable def aggN (P : Program) (N : Names) (t : TypeId) (x y : Value) : Option Bool :=
  match P.underlying t, x, y with
  | some (.struct fields), .agg xs, .agg ys => cond (P.stoodInAs t).isEmpty (allO (fun f => cond (f.name == "_") (some true) (match idxR xs.toList f.offset, idxR ys.toList f.offset with
    | some u, some v => fieldN P N f.type u v
    | _, _ => none)) fields.toList) none
  | _, _, _ => none
theorem allO_mono {α : Type} {p q : α → Option Bool} (h : ∀ a b, p a = some b → q a = some b) : ∀ {l : List α} {b : Bool}, allO p l = some b → allO q l = some b
  | [], b, hb => hb
  | a :: l, b, hb => by
    have hb' : (match p a with
      | some true => allO p l
      | some false => some false
      | none => none) = some b := hb
    show (match q a with
      | some true => allO q l
      | some false => some false
      | none => none) = some b
    cases hp : p a with
    | none => rw [hp] at hb'; cases hb'
    | some t =>
      rw [hp] at hb'
      rw [h a t hp]
      cases t with
      | true => exact allO_mono h hb'
      | false => exact hb'
theorem aPart_basic {t : TypeId} {u : TypeDesc} (hu : P.underlying t = some u) (hb : (match u with
    | .struct _ => false
    | .array _ _ => false
    | _ => true) = true) (l : List Value) (off : Nat) : aPart P t l off = l[off]? := by
  unfold aPart aggT
  rw [hu]
  cases u <;> first | rfl | cases hb
theorem byteVals_inj0 : ∀ {a b : List UInt8}, byteVals a = byteVals b → a = b
  | [], [], _ => rfl
  | [], _ :: _, h => by cases h
  | _ :: _, [], h => by cases h
  | x :: a, y :: b, h => by
    simp only [byteVals, List.map_cons, List.cons.injEq, Value.int.injEq, true_and, Int.ofNat_eq_natCast] at h
    have h1 : x = y := UInt8.toNat_inj.1 (by omega)
    rw [h1, byteVals_inj0 (a := a) (b := b) h.2]
theorem fieldN_ok {N : Names} (h : NamesOk G N) {t : TypeId} {x y : Value} {b : Bool} {n : Nat} (hb : fieldN P N t x y = some b) {xs ys : List Value} {off : Nat} (hx : xs[off]? = some x) (hy : ys[off]? = some y) :
    partsEq P (aEq P σ (n + 1)) t (xs.map (gvr G)) (ys.map (gvr G)) off = some b := by
  unfold fieldN at hb
  have hx' : (xs.map (gvr G))[off]? = some (gvr G x) := by rw [List.getElem?_map, hx]; rfl
  have hy' : (ys.map (gvr G))[off]? = some (gvr G y) := by rw [List.getElem?_map, hy]; rfl
  split at hb
  · rename_i hu
    cases hsx : sb N x with
    | none => rw [hsx] at hb; cases hb
    | some la =>
      cases hsy : sb N y with
      | none => rw [hsx, hsy] at hb; cases hb
      | some lb =>
        rw [hsx, hsy] at hb; simp only at hb
        obtain ⟨k1, k2, s, k3, k4⟩ := sb_ok h hsx
        obtain ⟨m1, m2, u, m3, m4⟩ := sb_ok h hsy
        have hc := cmpL_ok h hb
        unfold partsEq
        rw [aPart_basic hu rfl, aPart_basic hu rfl, hx', hy']
        simp only
        rw [aEq_succ, hu, gvr_name k1, gvr_name m1, k3, m3]
        simp only [lEq_eq]
        rw [k4, m4] at hc
        congr 1
        rw [Bool.eq_iff_iff, hc, beq_iff_eq]
        exact ⟨fun e => by rw [e], fun e => byteVals_inj0 e⟩
  · rename_i k0 hu
    cases hkx : kindN N x with
    | none => rw [hkx] at hb; cases hb
    | some k =>
      cases hky : kindN N y with
      | none => rw [hkx, hky] at hb; cases hb
      | some k' =>
        rw [hkx, hky] at hb; simp only at hb
        rw [natBeq, cond_decide] at hb
        split at hb
        · rename_i hk
          have hk' := kCode_inj hk
          subst hk'
          obtain ⟨k1, a, k2⟩ := kindN_ok h hkx
          obtain ⟨m1, c, m2⟩ := kindN_ok h hky
          have hc := cmpB_ok h hb
          unfold partsEq
          rw [aPart_basic hu rfl, aPart_basic hu rfl, hx', hy']
          simp only
          rw [aEq_succ, hu, gvr_name k1, gvr_name m1, k2, m2]
          simp only [if_true, ieq_eq]
          rw [k2, m2] at hc
          congr 1
          rw [Bool.eq_iff_iff, hc, beq_iff_eq]
          exact ⟨fun e => by rw [e], fun e => by cases e; rfl⟩
        · cases hb
  · rename_i hu
    split at hb
    · cases hb
      unfold partsEq
      rw [aPart_basic hu rfl, aPart_basic hu rfl, hx', hy']
      simp only
      rw [aEq_succ, hu]
      rfl
    · cases hb
  · cases hb
theorem aggN_ok {N : Names} (h : NamesOk G N) {t : TypeId} {x y : Value} {b : Bool} {n : Nat} (hb : aggN P N t x y = some b) : ∃ xs ys, x = .agg xs ∧ y = .agg ys ∧ aEq P σ (n + 2) t (gvd G x) (gvd G y) = some b := by
  unfold aggN at hb
  split at hb
  · rename_i fields xs ys hu
    refine ⟨xs, ys, rfl, rfl, ?_⟩
    rw [aEq_succ, hu]
    simp only [gvd]
    cases hs : (P.stoodInAs t).isEmpty with
    | false => rw [hs] at hb; cases hb
    | true =>
      rw [hs, cond_true] at hb
      rw [cond_true]
      refine allO_mono ?_ hb
      intro f c hf
      cases hn : (f.name == "_") with
      | true => rw [hn, cond_true] at hf; rw [cond_true]; exact hf
      | false =>
        rw [hn, cond_false] at hf
        rw [cond_false]
        simp only [idxR_eq] at hf
        split at hf
        · rename_i u v h1 h2
          exact fieldN_ok h hf h1 h2
        · cases hf
  · cases hb
noncomputable def aggOp (P : Program) (N : Names) (op : Op) (vals : List Value) : Option Value :=
  match op, vals with
  | .binOp o t _ _ _, [x, y] => match o with
    | .eql => cond (!P.eqGuardType P.depth t) (match aggN P N t x y with
      | some b => some (.bool b)
      | none => none) none
    | .neq => cond (!P.eqGuardType P.depth t) (match aggN P N t x y with
      | some b => some (.bool (!b))
      | none => none) none
    | _ => none
  | _, _ => none
theorem aggOp_ok {N : Names} (h : NamesOk G N) {X : Extn} {ρ : Operand → Value} {o : Oper} {v : Value} (hb : aggOp P N o.op ((opnds o.op).map ρ) = some v) :
    evalOp0 P X (fun x => gvd G (ρ x)) σ o = some (.val v, σ) := by
  obtain ⟨dst, op, ty, pos, after, guard⟩ := o
  simp only at hb
  cases op <;> simp only [opnds, List.map_cons, List.map_nil, aggOp] at hb <;> (try (cases hb; done))
  rename_i op t x y yt
  show st σ (aBin P σ op t x y (gvd G (ρ x)) (gvd G (ρ y))) = some (.val v, σ)
  cases op <;> simp only at hb <;> (try (cases hb; done))
  · cases hg : (!P.eqGuardType P.depth t) with
    | false => rw [hg] at hb; cases hb
    | true =>
      rw [hg, cond_true] at hb
      cases ha : aggN P N t (ρ x) (ρ y) with
      | none => rw [ha] at hb; cases hb
      | some b =>
        rw [ha] at hb; cases hb
        obtain ⟨xs, ys, e1, e2, e3⟩ := aggN_ok (σ := σ) (n := 62) h ha
        rw [e1, e2] at e3 ⊢
        simp only [gvd] at e3 ⊢
        unfold aBin
        simp only [aGuard, hg, cond_true, e3]
        rfl
  · cases hg : (!P.eqGuardType P.depth t) with
    | false => rw [hg] at hb; cases hb
    | true =>
      rw [hg, cond_true] at hb
      cases ha : aggN P N t (ρ x) (ρ y) with
      | none => rw [ha] at hb; cases hb
      | some b =>
        rw [ha] at hb; cases hb
        obtain ⟨xs, ys, e1, e2, e3⟩ := aggN_ok (σ := σ) (n := 62) h ha
        rw [e1, e2] at e3 ⊢
        simp only [gvd] at e3 ⊢
        unfold aBin
        simp only [aGuard, hg, cond_true, e3]
        rfl
end Vai

namespace Vai
open Go Go.RowKit
variable {P : Program} {G : Sym} {μ : Mu} {N0 : Nat} {σ τ : Mem} {w : World}

/-- A byte of a plain text, by a number that is known by name; how long a text is, and its first bytes, where it is known by name alone. -/
noncomputable def idxOp (P : Program) (N : Names) (op : Op) (vals : List Value) : Option Value :=
  match op, vals with
  | .index t _ _, [.string s, i] => match P.underlying t with
    | some .string => N.find 70 i (.string s)
    | _ => none
  | .call c, [s] => match c.callee, c.argTypes[0]? with
    | .builtin .len, some t => match P.underlying t with
      | some .string => N.find 71 s (.int .u8 0)
      | _ => none
    | _, _ => none
  | .slice t _ none (some _) none, [s, .int k (.ofNat b)] => match P.underlying t with
    | some .string => N.find 72 s (.int k (.ofNat b))
    | _ => none
  | _, _ => none
theorem entX70 {a b v : Value} (h : entV 70 a b v = true) : ∃ k n s x, a = .int k (.ofNat n) ∧ b = .string s ∧ s.data.toList[n]? = some x ∧ v = .int .u8 (.ofNat x.toNat) := by
  have h1 : entIx a b v = true := h
  unfold entIx at h1
  split at h1
  · rename_i k n s m
    rw [idxR_eq] at h1
    split at h1
    · rename_i x hx
      have := Nat.eq_of_beq_eq_true h1
      subst this
      exact ⟨k, n, s, x, rfl, rfl, hx, rfl⟩
    · cases h1
  · cases h1
theorem entX71 {a b v : Value} (h : entV 71 a b v = true) : ∃ s, a = .string s ∧ v = .int .i64 (.ofNat s.data.toList.length) := by
  have h1 : entLn a v = true := h
  unfold entLn at h1
  split at h1
  · rename_i s m
    have := Nat.eq_of_beq_eq_true h1
    subst this
    exact ⟨s, rfl, rfl⟩
  · cases h1
theorem entX72 {a b v : Value} (h : entV 72 a b v = true) : ∃ s k n, a = .string s ∧ b = .int k (.ofNat n) ∧ n ≤ s.data.toList.length ∧ v = .string ⟨⟨s.data.toList.take n⟩⟩ := by
  have h1 : entPx a b v = true := h
  unfold entPx at h1
  split at h1
  · rename_i s k n t
    simp only [Bool.and_eq_true] at h1
    obtain ⟨h1, h2⟩ := h1
    rw [lEq_eq, beq_iff_eq] at h2
    refine ⟨s, k, n, rfl, rfl, Nat.le_of_ble_eq_true h1, ?_⟩
    congr 1
    exact ba_ext h2.symm
  · cases h1
theorem idxOp_ok {N : Names} (h : NamesOk G N) {X : Extn} {ρ : Operand → Value} {o : Oper} {v : Value} (hb : idxOp P N o.op ((opnds o.op).map ρ) = some v) :
    ∃ u, evalOp0 P X (fun x => gvr G (ρ x)) σ o = some (.val u, σ) ∧ SimV G u v := by
  obtain ⟨dst, op, ty, pos, after, guard⟩ := o
  simp only at hb
  unfold idxOp at hb
  split at hb
  · rename_i t x ix s i hl
    simp only [opnds, List.map_cons, List.map_nil, List.cons.injEq, and_true] at hl
    obtain ⟨hx, hi⟩ := hl
    split at hb
    · rename_i hu
      obtain ⟨k1, k2, k3, k4⟩ := Names.find_ok h hb
      obtain ⟨k, n, s', y, e1, e2, e3, e4⟩ := entX70 k4
      have e2 : Value.string s = .string s' := e2
      cases e2
      refine ⟨.int .u8 (.ofNat y.toNat), ?_, SimV.names h.named rfl k3 e4.symm⟩
      show st σ (aIndex P t (gvr G (ρ x)) (gvr G (ρ ix))) = _
      rw [hx, hi, gvr_name k1, e1]
      show st σ (aIndex P t (.string s) (.int k (.ofNat n))) = _
      unfold aIndex
      simp only [hu, idxR_eq, e3]
      rfl
    · cases hb
  · rename_i c s hl
    split at hb
    · rename_i t hc ht
      split at hb
      · rename_i hu
        obtain ⟨k1, k2, k3, k4⟩ := Names.find_ok h hb
        obtain ⟨s', e1, e2⟩ := entX71 k4
        simp only [opnds, hc, List.nil_append] at hl
        refine ⟨.int .i64 (.ofNat s'.data.toList.length), ?_, SimV.names h.named rfl k3 e2.symm⟩
        have mm : c.args.toList.map (fun x => gvr G (ρ x)) = (c.args.toList.map ρ).map (gvr G) := by rw [List.map_map]; rfl
        unfold evalOp0
        simp only [hc, mm, hl, List.map_cons, List.map_nil, gvr_name k1, e1, aBuiltin, aLen, ht, hu]
      · cases hb
    · cases hb
  · rename_i t x bo s k b hl
    simp only [opnds, Option.toList_none, Option.toList_some, List.append_nil, List.nil_append, List.map_cons, List.map_nil, List.cons_append, List.cons.injEq, and_true] at hl
    obtain ⟨hx, hi⟩ := hl
    split at hb
    · rename_i hu
      obtain ⟨k1, k2, k3, k4⟩ := Names.find_ok h hb
      obtain ⟨s', k', n, e1, e2, e3, e4⟩ := entX72 k4
      have e2 : Value.int k (.ofNat b) = .int k' (.ofNat n) := e2
      cases e2
      refine ⟨.string ⟨⟨s'.data.toList.take b⟩⟩, ?_, SimV.names h.named rfl k3 e4.symm⟩
      show st σ (aSlice P σ t (gvr G (ρ x)) none (some (gvr G (ρ bo))) none) = _
      rw [hx, hi, gvr_name k1, e1, gvr_int]
      rw [sliceStr hu (Nat.zero_le b) e3 ((bound_of e3).2 _) rfl]
      rfl
    · cases hb
  · cases hb
end Vai

namespace Vai
open Go Go.RowKit
variable {P : Program} {G : Sym} {μ : Mu} {N0 : Nat} {σ τ : Mem} {w : World}

/-- Functions without a body as `X` tells, and operations over names as `N` tells. -/
noncomputable def symX (P : Program) (N : Names) (X : ExtF) : Extn :=
  ⟨X, fun op vals => match nmOp P N op vals with
      | some v => some (.val v)
      | none => match idxOp P N op vals with
        | some v => some (.val v)
        | none => none,
    fun op vals σ => match nmOp P N op vals with
      | some v => some (.val v)
      | none => match rdMem P N op vals σ with
        | some v => some (.val v)
        | none => match mmN N op vals with
          | some v => some (.val v)
          | none => match aggOp P N op vals with
            | some v => some (.val v)
            | none => match idxOp P N op vals with
              | some v => some (.val v)
              | none => none,
    fun op vals σ => match effOp P N op vals σ with
      | some r => some r
      | none => unsN P N op vals σ⟩
theorem symX_nam {N : Names} (h : NamesOk G N) {X : ExtF} (hX : FnOk P G X) : NamOk P G (symX P N X) := by
  intro o r ρ ρ' σ μ N0 w hb hok hr hρ
  have hρg : ∀ n, n = σ.nxt → ∀ x, okB x = true → ρ' x = conc μ (gvr G (ρ x)) ∧ wf n (gvr G (ρ x)) := by
    intro n hn x hx
    subst hn
    have hs := simV_gvr h (ρ x)
    exact ⟨by rw [(hρ x hx).1, hs.1 μ hr.glob], (hs.2 _ hr.gnxt).1 (hρ x hx).2⟩
  have pure : ∀ v, nmOp P N o.op ((opnds o.op).map ρ) = some v → OpOk P G μ N0 σ w (execOp ρ' o) (.val v, σ) := by
    intro v hv
    obtain ⟨u, h1, h2⟩ := nmOp_ok (P := P) (σ := σ) h (X := Extn.of X) hv
    exact OpOk.sim (.refl σ) (evalOp0_ok (ExtOk.of hX) hr h1 hok (hρg _ rfl)) (.refl σ) h2
  have reading : ∀ v, rdMem P N o.op ((opnds o.op).map ρ) σ = some v → OpOk P G μ N0 σ w (execOp ρ' o) (.val v, σ) := by
    intro v hv
    obtain ⟨τ, u, h1, h2, h3⟩ := rdMem_ok (P := P) h hr (X := Extn.of X) hv
    exact OpOk.sim h1 (evalOp0_ok (ExtOk.of hX) (hr.sim h1) h2 hok (hρg _ h1.nxt.symm)) h1.symm h3
  have byIdx : ∀ v, idxOp P N o.op ((opnds o.op).map ρ) = some v → OpOk P G μ N0 σ w (execOp ρ' o) (.val v, σ) := by
    intro v hv
    obtain ⟨u, h1, h2⟩ := idxOp_ok (P := P) (σ := σ) h (X := Extn.of X) hv
    exact OpOk.sim (.refl σ) (evalOp0_ok (ExtOk.of hX) hr h1 hok (hρg _ rfl)) (.refl σ) h2
  unfold nameOp at hb
  split at hb
  · obtain ⟨nx, h1, rfl⟩ := st_inv hb
    simp only [symX] at h1
    split at h1
    · rename_i v hv; cases h1; exact pure v hv
    · split at h1
      · rename_i v hv; cases h1; exact byIdx v hv
      · cases h1
  · obtain ⟨nx, h1, rfl⟩ := st_inv hb
    simp only [symX] at h1
    split at h1
    · rename_i v hv; cases h1; exact pure v hv
    · split at h1
      · rename_i v hv; cases h1; exact reading v hv
      · split at h1
        · rename_i v hv; cases h1
          obtain ⟨u, h1, h2⟩ := mmN_ok (P := P) (σ := σ) h (X := Extn.of X) hv
          exact OpOk.sim (.refl σ) (evalOp0_ok (ExtOk.of hX) hr h1 hok (hρg _ rfl)) (.refl σ) h2
        · split at h1
          · rename_i v hv; cases h1
            have h1 := aggOp_ok (P := P) (σ := σ) h (X := Extn.of X) hv
            exact evalOp0_ok (ExtOk.of hX) hr h1 hok fun x hx => by
              have hs := simV_gvd h (ρ x)
              exact ⟨by rw [(hρ x hx).1, hs.1 μ hr.glob], (hs.2 _ hr.gnxt).1 (hρ x hx).2⟩
          · split at h1
            · rename_i v hv; cases h1; exact byIdx v hv
            · cases h1
  · obtain ⟨nx, σ'⟩ := r
    simp only [symX] at hb
    split at hb
    · rename_i q hq
      cases hb
      obtain ⟨τ, u, τ', h1, h2, h3, h4⟩ := effOp_ok (P := P) h hr (X := Extn.of X) hq
      exact OpOk.sim h1 (evalOp0_ok (ExtOk.of hX) (hr.sim h1) h2 hok (hρg _ h1.nxt.symm)) h3 h4
    · obtain ⟨τ, u, τ', h1, h2, h3, h4⟩ := unsN_ok (P := P) h hr (X := Extn.of X) hb
      exact OpOk.sim h1 (evalOp0_ok (ExtOk.of hX) (hr.sim h1) h2 hok (hρg _ h1.nxt.symm)) h3 h4
  · cases hb
theorem symX_ok {N : Names} (h : NamesOk G N) {X : ExtF} (hX : FnOk P G X) : ExtOk P G (symX P N X) := ⟨hX, symX_nam h hX⟩

/-! A table of names, and its check for plain values. -/
noncomputable def strsOf (l : List NInfo) : Nat → List (Nat × List Value) :=
  List.rec (motive := fun _ => Nat → List (Nat × List Value)) (fun _ => [])
    (fun f _ ih i => match f.str with
      | some s => (4096 + i, s) :: ih (Nat.succ i)
      | none => ih (Nat.succ i)) l
noncomputable def Names.ofL (l : List NInfo) : Names := ⟨T.ofList l 0 .leaf, strsOf l 0⟩
/-- The names' values. -/
noncomputable def symL (l : List Value) : Sym := fun i => match idxR l i with
  | some v => v
  | none => .int .i64 0
def namedB : Value → Bool
  | .int _ _ => true
  | .string _ => true
  | _ => false
theorem namedB_ok {v : Value} (h : namedB v = true) : named v := by cases v <;> first | trivial | cases h
noncomputable def entOkB (G : Sym) (e : Ent) : Bool := cond (nameB e.a) (cond (nameB e.b) (cond (nameB e.v) (entV e.code (gv G e.a) (gv G e.b) (gv G e.v)) false) false) false
theorem entOkB_ok {e : Ent} (h : entOkB G e = true) : EntOk G e := by
  unfold entOkB at h
  cases h1 : nameB e.a with
  | false => rw [h1] at h; cases h
  | true =>
    cases h2 : nameB e.b with
    | false => rw [h1, h2] at h; cases h
    | true =>
      cases h3 : nameB e.v with
      | false => rw [h1, h2, h3] at h; cases h
      | true => rw [h1, h2, h3] at h; exact ⟨h1, h2, h3, h⟩
noncomputable def entsB (G : Sym) (l : List Ent) : Bool := List.rec (motive := fun _ => Bool) true (fun e _ ih => cond (entOkB G e) ih false) l
theorem entsB_ok : ∀ {l : List Ent}, entsB G l = true → ∀ e ∈ l, EntOk G e
  | [], _, e, he => absurd he (by simp)
  | x :: l, h, e, he => by
    have h' : cond (entOkB G x) (entsB G l) false = true := h
    cases hx : entOkB G x with
    | false => rw [hx] at h'; cases h'
    | true =>
      rw [hx, cond_true] at h'
      rcases List.mem_cons.1 he with rfl | he
      · exact entOkB_ok hx
      · exact entsB_ok h' e he
noncomputable def mapN (f : Value → Value) (l : List Value) : List Value := List.rec (motive := fun _ => List Value) [] (fun v _ ih => f v :: ih) l
theorem mapN_eq (f : Value → Value) : ∀ l, mapN f l = l.map f
  | [] => rfl
  | v :: l => by show f v :: mapN f l = _; rw [mapN_eq f l]; rfl
noncomputable def strB (G : Sym) (v : Value) (l : List Value) : Bool := match v with
  | .string s => cond (allN nameB l) (vEqL (mapN (gv G) l) (byteVals s.data.toList)) false
  | _ => false
noncomputable def rngB (v : Value) (k : IntKind) (lo hi : Int) : Bool := match v with
  | .int k' n => cond (Nat.beq (kCode k) (kCode k')) (cond (ilt n lo) false (!ilt hi n)) false
  | _ => false
noncomputable def infoB (G : Sym) (v : Value) (f : NInfo) : Bool :=
  cond (match f.rng with
    | some (k, lo, hi) => rngB v k lo hi
    | none => true) (cond (match f.str with
    | some l => strB G v l
    | none => true) (entsB G f.ents) false) false
theorem strB_ok {i : Nat} {l : List Value} (h : strB G (G i) l = true) : StrOk G i l := by
  unfold strB at h
  split at h
  · rename_i s hs
    cases h1 : allN nameB l with
    | false => rw [h1] at h; cases h
    | true =>
      rw [h1, cond_true] at h
      have := vEqL_eq _ _ h
      rw [mapN_eq] at this
      exact ⟨by rw [← allN_eq]; exact h1, s, hs, this⟩
  · cases h
theorem infoB_ok {i : Nat} {f : NInfo} (h : infoB G (G i) f = true) : InfoOk G i f := by
  unfold infoB at h
  cases h1 : (match f.rng with
    | some (k, lo, hi) => rngB (G i) k lo hi
    | none => true) with
  | false => rw [h1] at h; cases h
  | true =>
    rw [h1, cond_true] at h
    cases h2 : (match f.str with
      | some l => strB G (G i) l
      | none => true) with
    | false => rw [h2] at h; cases h
    | true =>
      rw [h2, cond_true] at h
      refine ⟨?_, ?_, entsB_ok h⟩
      · intro k lo hi hr
        rw [hr] at h1
        simp only at h1
        unfold rngB at h1
        split at h1
        · rename_i k' n hg
          rw [natBeq, cond_decide] at h1
          split at h1
          · rename_i hk
            have hk' := kCode_inj hk
            subst hk'
            rw [ilt_eq, ilt_eq, cond_decide] at h1
            split at h1
            · cases h1
            · simp only [Bool.not_eq_true', decide_eq_false_iff_not] at h1
              exact ⟨n, hg, by omega, by omega⟩
          · cases h1
        · cases h1
      · intro l hl
        rw [hl] at h2
        exact strB_ok h2
/-- The whole table, held against plain values. -/
noncomputable def tabB (G : Sym) (l : List NInfo) : Nat → Bool :=
  List.rec (motive := fun _ => Nat → Bool) (fun _ => true) (fun f _ ih i => cond (infoB G (G i) f) (ih (Nat.succ i)) false) l
theorem tabB_ok : ∀ {l : List NInfo} {i : Nat}, tabB G l i = true → ∀ j f, l[j]? = some f → InfoOk G (i + j) f
  | [], i, _, j, f, hf => by simp at hf
  | x :: l, i, h, j, f, hf => by
    have h' : cond (infoB G (G i) x) (tabB G l (i + 1)) false = true := h
    cases hx : infoB G (G i) x with
    | false => rw [hx] at h'; cases h'
    | true =>
      rw [hx, cond_true] at h'
      cases j with
      | zero => cases hf; exact infoB_ok hx
      | succ j => have := tabB_ok h' j f (by simpa using hf); rw [show i + (j + 1) = i + 1 + j by omega]; exact this
theorem strsOf_mem : ∀ {l : List NInfo} {i : Nat} {p : Nat × List Value}, p ∈ strsOf l i → ∃ j f, l[j]? = some f ∧ p.1 = 4096 + (i + j) ∧ f.str = some p.2
  | [], _, p, hp => absurd hp (by intro e; cases e)
  | x :: l, i, p, hp => by
    have hp' : p ∈ (match x.str with
      | some s => (4096 + i, s) :: strsOf l (i + 1)
      | none => strsOf l (i + 1)) := hp
    have rest : p ∈ strsOf l (i + 1) → ∃ j f, (x :: l)[j]? = some f ∧ p.1 = 4096 + (i + j) ∧ f.str = some p.2 := by
      intro hm
      obtain ⟨j, f, h1, h2, h3⟩ := strsOf_mem hm
      exact ⟨j + 1, f, by simpa using h1, by omega, h3⟩
    split at hp'
    · rename_i s hs
      rcases List.mem_cons.1 hp' with rfl | hm
      · exact ⟨0, x, rfl, rfl, hs⟩
      · exact rest hm
    · exact rest hp'
noncomputable def namedAll (l : List Value) : Bool := allN namedB l
theorem symL_named {l : List Value} (h : namedAll l = true) (i : Nat) : named (symL l i) := by
  unfold symL
  rw [idxR_eq]
  unfold namedAll at h
  rw [allN_eq] at h
  cases hv : l[i]? with
  | none => trivial
  | some v => exact namedB_ok (List.all_eq_true.1 h v (List.mem_of_getElem? hv))
/-- A table is right where the check says so. -/
theorem namesOk_of {l : List Value} {tab : List NInfo} (h1 : namedAll l = true) (h2 : tab.length ≤ 4096) (h3 : tabB (symL l) tab 0 = true) : NamesOk (symL l) (Names.ofL tab) where
  named := symL_named h1
  tab i f hf := by
    have hf' : (T.ofList tab 0 .leaf).get i = some f := hf
    rw [T.get_ofList tab 0 .leaf i (by omega)] at hf'
    split at hf'
    · have := tabB_ok h3 i f (by simpa using hf')
      simpa using this
    · rw [T.get_leaf] at hf'; cases hf'
  strs p hp := by
    obtain ⟨j, f, k1, k2, k3⟩ := strsOf_mem hp
    have hj : j < tab.length := by
      rcases Nat.lt_or_ge j tab.length with h4 | h4
      · exact h4
      · rw [List.getElem?_eq_none h4] at k1; cases k1
    have := tabB_ok h3 j f k1
    refine ⟨by omega, by omega, ?_⟩
    rw [k2, show 4096 + (0 + j) - 4096 = 0 + j by omega]
    exact this.str p.2 k3
end Vai

namespace Vai
open Go Go.RowKit

/-! The check sum of bytes (CRC-32), for the kernel. -/
noncomputable def crcStep (x : Nat) : Nat := Nat.xor (Nat.shiftRight x 1) (Nat.mul 3988292384 (Nat.land x 1))
noncomputable def crcByte (x c : Nat) : Nat := crcStep (crcStep (crcStep (crcStep (crcStep (crcStep (crcStep (crcStep (Nat.xor x c))))))))
noncomputable def crcL (l : List UInt8) : Nat → Nat := List.rec (motive := fun _ => Nat → Nat) (fun x => x) (fun b _ ih x => ih (crcByte x b.toNat)) l
noncomputable def crcR (l : List UInt8) : Nat := Nat.xor (crcL l 4294967295) 4294967295

/-- How a name's value comes of others: by an operation, as a text of bytes, as a check sum, by a table. -/
inductive NDef where
  | ent (c : Nat) (a b : Value)
  | str (l : List Value)
  | crc (l : List Value)
  | idx (k : IntKind) (x : Value) (lo : Nat) (l : List Int)
noncomputable def entE (c : Nat) (a b : Value) : Value :=
  cond (Nat.blt c 32) (match binV (opOf c) a b with
    | some v => v
    | none => .int .i64 0) (cond (Nat.beq c 70) (match a, b with
    | .int _ (.ofNat n), .string s => match idxR s.data.toList n with
      | some x => .int .u8 (.ofNat x.toNat)
      | none => .int .i64 0
    | _, _ => .int .i64 0) (match a with
    | .int _ n => .int (kOf (c - 32)) (wrapK (kOf (c - 32)) n)
    | _ => .int .i64 0))
noncomputable def defE (G : Sym) (d : NDef) : Value :=
  match d with
  | .ent c a b => entE c (gv G a) (gv G b)
  | .str l => match bytesOf (mapN (gv G) l) with
    | some bs => .string ⟨⟨bs⟩⟩
    | none => .int .i64 0
  | .crc l => match bytesOf (mapN (gv G) l) with
    | some bs => .int .u32 (.ofNat (crcR bs))
    | none => .int .i64 0
  | .idx k x lo l => match gv G x with
    | .int _ (.ofNat n) => match idxR l (Nat.sub n lo) with
      | some z => .int k z
      | none => .int k 0
    | _ => .int k 0
/-- The names' values: the first ones given, the others by their makings. -/
noncomputable def mkVals (ds : List NDef) : List Value → List Value :=
  List.rec (motive := fun _ => List Value → List Value) (fun l => l) (fun d _ ih l => ih (l ++ [defE (symL l) d])) ds
/-- Is the table right for these values? -/
noncomputable def tabOk (vals : List Value) (tab : List NInfo) : Bool := cond (namedAll vals) (cond (Nat.ble tab.length 4096) (tabB (symL vals) tab 0) false) false
theorem tabOk_ok {vals : List Value} {tab : List NInfo} (h : tabOk vals tab = true) : NamesOk (symL vals) (Names.ofL tab) := by
  unfold tabOk at h
  cases h1 : namedAll vals with
  | false => rw [h1] at h; cases h
  | true =>
    rw [h1, cond_true] at h
    cases h2 : Nat.ble tab.length 4096 with
    | false => rw [h2] at h; cases h
    | true =>
      rw [h2, cond_true] at h
      exact namesOk_of h1 (Nat.le_of_ble_eq_true h2) h
end Vai

namespace Vai
open Go Go.RowKit
variable {P : Program} {G : Sym} {μ : Mu} {N0 : Nat} {σ τ : Mem} {w : World}

/-- Cells of bytes, plain or by name, of a slice or a text. -/
noncomputable def cellsN (N : Names) (σ : Mem) (b : Value) : Option (List Value) :=
  match b with
  | .slice (some a) n _ => match σ.cells a n with
    | some l => cond (allN (byteN N) l) (some l) none
    | none => none
  | .chan (some r) => sb N (.chan (some r))
  | _ => none
/-- The same memory and value, plain. -/
theorem cellsN_ok {N : Names} (h : NamesOk G N) (hr : Rel G μ N0 σ w) {b : Value} {l : List Value} (hc : cellsN N σ b = some l) :
    ∃ τ bs, SimM G σ τ ∧ l.map (gv G) = byteVals bs ∧ (∀ v ∈ l, nameB v = true) ∧ bytesV τ (gvr G b) = some bs := by
  unfold cellsN at hc
  split at hc
  · rename_i a n c
    cases hl : σ.cells a n with
    | none => rw [hl] at hc; cases hc
    | some l' =>
      rw [hl] at hc; simp only at hc
      cases hal : allN (byteN N) l' with
      | false => rw [hal] at hc; cases hc
      | true =>
        rw [hal, cond_true] at hc; cases hc
        obtain ⟨k1, bs, k2⟩ := bytesN_ok h hal
        obtain ⟨τ, t1, t2⟩ := cells_plain h hr hl
        rw [map_gvr k1, k2] at t2
        refine ⟨τ, bs, t1, k2, k1, ?_⟩
        rw [show gvr G (.slice (some a) n c) = .slice (some a) n c from rfl]
        unfold bytesV
        simp only [t2, bytesOf_byteVals]
  · rename_i r
    obtain ⟨k1, k2, s, k3, k4⟩ := sb_ok h hc
    refine ⟨σ, s.data.toList, .refl σ, k4, List.all_eq_true.1 k2, ?_⟩
    rw [gvr_name k1, k3]
    rfl
  · cases hc
noncomputable def fndN (N : Names) (c : Value) (l : List Value) : Nat → Option Int :=
  List.rec (motive := fun _ => Nat → Option Int) (fun _ => some (.negSucc 0)) (fun b _ ih i => match cmpB N b c with
    | some true => some (.ofNat i)
    | some false => ih (Nat.succ i)
    | none => none) l
theorem fndN_ok {N : Names} (h : NamesOk G N) {c : Nat} : ∀ {l : List Value} {bs : List UInt8} {i : Nat} {r : Int}, l.map (gv G) = byteVals bs → fndN N (.int .u8 (.ofNat c)) l i = some r → fndB c bs i = r
  | [], [], i, r, _, h2 => by
    have : some (Int.negSucc 0) = some r := h2
    exact Option.some.inj this
  | [], _ :: _, _, _, h1, _ => by cases h1
  | _ :: _, [], _, _, h1, _ => by cases h1
  | v :: l, b :: bs, i, r, h1, h2 => by
    have h2' : (match cmpB N v (.int .u8 (.ofNat c)) with
      | some true => some (.ofNat i)
      | some false => fndN N (.int .u8 (.ofNat c)) l (i + 1)
      | none => none) = some r := h2
    simp only [List.map_cons, byteVals, List.cons.injEq] at h1
    show cond (Nat.beq b.toNat c) (.ofNat i) (fndB c bs (i + 1)) = r
    cases hc : cmpB N v (.int .u8 (.ofNat c)) with
    | none => rw [hc] at h2'; cases h2'
    | some t =>
      have hk := cmpB_ok h hc
      rw [hc] at h2'
      rw [h1.1] at hk
      simp only [gv, Value.int.injEq, true_and, Int.ofNat_eq_natCast] at hk
      cases t with
      | true =>
        simp only at h2'; cases h2'
        have : Nat.beq b.toNat c = true := by rw [natBeq, decide_eq_true_eq]; have := hk.1 rfl; omega
        rw [this]; rfl
      | false =>
        simp only at h2'
        have : Nat.beq b.toNat c = false := by
          rw [natBeq, decide_eq_false_iff_not]; intro e
          have := hk.2 (by omega); cases this
        rw [this, cond_false]
        exact fndN_ok h h1.2 h2'
noncomputable def cntN (N : Names) (c : Value) (l : List Value) : Nat → Option Nat :=
  List.rec (motive := fun _ => Nat → Option Nat) (fun n => some n) (fun b _ ih n => match cmpB N b c with
    | some true => ih (Nat.succ n)
    | some false => ih n
    | none => none) l
theorem cntN_ok {N : Names} (h : NamesOk G N) {c : Nat} : ∀ {l : List Value} {bs : List UInt8} {i r : Nat}, l.map (gv G) = byteVals bs → cntN N (.int .u8 (.ofNat c)) l i = some r → cntB c bs i = r
  | [], [], i, r, _, h2 => by
    have : some i = some r := h2
    exact Option.some.inj this
  | [], _ :: _, _, _, h1, _ => by cases h1
  | _ :: _, [], _, _, h1, _ => by cases h1
  | v :: l, b :: bs, i, r, h1, h2 => by
    have h2' : (match cmpB N v (.int .u8 (.ofNat c)) with
      | some true => cntN N (.int .u8 (.ofNat c)) l (i + 1)
      | some false => cntN N (.int .u8 (.ofNat c)) l i
      | none => none) = some r := h2
    simp only [List.map_cons, byteVals, List.cons.injEq] at h1
    show cond (Nat.beq b.toNat c) (cntB c bs (i + 1)) (cntB c bs i) = r
    cases hc : cmpB N v (.int .u8 (.ofNat c)) with
    | none => rw [hc] at h2'; cases h2'
    | some t =>
      have hk := cmpB_ok h hc
      rw [hc] at h2'
      rw [h1.1] at hk
      simp only [gv, Value.int.injEq, true_and, Int.ofNat_eq_natCast] at hk
      cases t with
      | true =>
        simp only at h2'
        have : Nat.beq b.toNat c = true := by rw [natBeq, decide_eq_true_eq]; have := hk.1 rfl; omega
        rw [this, cond_true]
        exact cntN_ok h h1.2 h2'
      | false =>
        simp only at h2'
        have : Nat.beq b.toNat c = false := by
          rw [natBeq, decide_eq_false_iff_not]; intro e
          have := hk.2 (by omega); cases this
        rw [this, cond_false]
        exact cntN_ok h h1.2 h2'

/-- Where a byte stands first, and how often, where some bytes are names. -/
noncomputable def extBytesN (N : Names) : ExtF := fun fn args σ =>
  cond (fn.origin == "") (match args with
    | [b, .int .u8 (.ofNat c)] => cond (Nat.blt c 256) (match cellsN N σ b with
      | some l => cond (fn.name == "internal/bytealg.IndexByte" || fn.name == "internal/bytealg.IndexByteString") (match fndN N (.int .u8 (.ofNat c)) l 0 with
          | some r => some (.val (.int .i64 r), σ)
          | none => none)
        (cond (fn.name == "internal/bytealg.Count" || fn.name == "internal/bytealg.CountString") (match cntN N (.int .u8 (.ofNat c)) l 0 with
          | some r => some (.val (.int .i64 (.ofNat r)), σ)
          | none => none) none)
      | none => none) none
    | _ => none) none
theorem extBytesN_ok {N : Names} (h : NamesOk G N) : FnOk P G (extBytesN N) := by
  intro f fn args σ r μ N0 w hf hbody hb hr hw
  unfold extBytesN at hb
  cases ho : (fn.origin == "") with
  | false => rw [ho] at hb; cases hb
  | true =>
    rw [ho, cond_true] at hb
    split at hb
    · rename_i b c
      rw [natBlt, cond_decide] at hb
      split at hb
      · rename_i hc
        cases hl : cellsN N σ b with
        | none => rw [hl] at hb; cases hb
        | some l =>
          rw [hl] at hb; simp only at hb
          obtain ⟨τ, bs, t1, t2, t3, t4⟩ := cellsN_ok h hr hl
          have hm : Nat.mod c 256 = c := Nat.mod_eq_of_lt hc
          have hargs : (⟨[b, Value.int .u8 (.ofNat c)].map (conc μ)⟩ : Array Value) = ⟨[gvr G b, Value.int .u8 (.ofNat c)].map (conc μ)⟩ := by
            simp only [List.map_cons, List.map_nil]
            rw [(simV_gvr h b).1 μ hr.glob]
          have hwf : wfL τ.nxt [gvr G b, Value.int .u8 (.ofNat c)] := ⟨by rw [← t1.nxt]; exact ((simV_gvr h b).2 _ hr.gnxt).1 hw.1, trivial, trivial⟩
          cases hn : (fn.name == "internal/bytealg.IndexByte" || fn.name == "internal/bytealg.IndexByteString") with
          | true =>
            rw [hn, cond_true] at hb
            cases hq : fndN N (.int .u8 (.ofNat c)) l 0 with
            | none => rw [hq] at hb; cases hb
            | some q =>
              rw [hq] at hb; cases hb
              have he : extIndexByte fn [gvr G b, .int .u8 (.ofNat c)] τ = some (.val (.int .i64 q), τ) := by
                unfold extIndexByte
                rw [ho, hn]
                simp only [Bool.and_self, cond_true, t4, show (Int.ofNat c).toNat = c from rfl, hm, fndN_ok h t2 hq]
              rw [hargs]
              exact OpOk.sim t1 (extIndexByte_ok f fn _ τ _ μ N0 w hf hbody he (hr.sim t1) hwf) t1.symm (.refl _)
          | false =>
            rw [hn, cond_false] at hb
            cases hn2 : (fn.name == "internal/bytealg.Count" || fn.name == "internal/bytealg.CountString") with
            | false => rw [hn2] at hb; cases hb
            | true =>
              rw [hn2, cond_true] at hb
              cases hq : cntN N (.int .u8 (.ofNat c)) l 0 with
              | none => rw [hq] at hb; cases hb
              | some q =>
                rw [hq] at hb; cases hb
                have he : extCount fn [gvr G b, .int .u8 (.ofNat c)] τ = some (.val (.int .i64 (.ofNat q)), τ) := by
                  unfold extCount
                  rw [ho, hn2]
                  simp only [Bool.and_self, cond_true, t4, show (Int.ofNat c).toNat = c from rfl, hm, cntN_ok h t2 hq]
                rw [hargs]
                exact OpOk.sim t1 (extCount_ok f fn _ τ _ μ N0 w hf hbody he (hr.sim t1) hwf) t1.symm (.refl _)
      · cases hb
    · cases hb
noncomputable def extSym (P : Program) (N : Names) : ExtF := orX (extMostF P) (orX (extBytesN N) extCmpStr)
theorem extSym_ok {N : Names} (h : NamesOk G N) : FnOk P G (extSym P N) := orX_ok extMostF_ok (orX_ok (extBytesN_ok h) extCmpStr_ok)
end Vai

namespace Vai
open Go Go.RowKit
variable {P : Program} {G : Sym} {μ μ' : Mu} {N0 : Nat} {σ τ σ' : Mem} {w w' : World}

/-! Calls told ahead, from a memory that is written down to one that is written down. -/
noncomputable def rowL (k : Kind) (elem : TypeId) (esz : Nat) (cells : List Value) (anc : List Nat) : Ob := .row ⟨k, elem, esz, cells.length, T.ofList cells 0 .leaf, anc⟩
structure Snap where
  nxt : Nat
  obs : List (Nat × Ob)
noncomputable def layT (l : List (Nat × Ob)) : T Ob → T Ob := List.rec (motive := fun _ => T Ob → T Ob) (fun t => t) (fun p _ ih t => ih (t.set p.1 p.2)) l
noncomputable def Snap.mem (s : Snap) : Mem := ⟨s.nxt, layT s.obs .leaf⟩
noncomputable def hasL (σ : Mem) (l : List (Nat × Ob)) : Bool :=
  List.rec (motive := fun _ => Bool) true (fun p _ ih => cond (Nat.blt p.1 1099511627776) (match σ.objs.get p.1 with
    | some o => cond (obB p.2 o) ih false
    | none => false) false) l
noncomputable def subM (s : Snap) (σ : Mem) : Bool := cond (Nat.beq s.nxt σ.nxt) (hasL σ s.obs) false
theorem hasL_cons (σ : Mem) (p : Nat × Ob) (l : List (Nat × Ob)) : hasL σ (p :: l) = cond (Nat.blt p.1 1099511627776) (match σ.objs.get p.1 with
    | some o => cond (obB p.2 o) (hasL σ l) false
    | none => false) false := rfl
theorem hasL_get : ∀ (l : List (Nat × Ob)) (t : T Ob), hasL σ l = true → (∀ id o, t.get id = some o → σ.objs.get id = some o) → ∀ id o, (layT l t).get id = some o → σ.objs.get id = some o
  | [], t, _, ht, id, o, h => ht id o h
  | p :: l, t, hl, ht, id, o, h => by
    rw [hasL_cons] at hl
    cases h1 : Nat.blt p.1 1099511627776 with
    | false => rw [h1] at hl; cases hl
    | true =>
      rw [h1, cond_true] at hl
      cases h2 : σ.objs.get p.1 with
      | none => rw [h2] at hl; cases hl
      | some o' =>
        rw [h2] at hl; simp only at hl
        cases h3 : obB p.2 o' with
        | false => rw [h3] at hl; cases hl
        | true =>
          rw [h3, cond_true] at hl
          refine hasL_get l (t.set p.1 p.2) hl ?_ id o h
          intro j q hq
          rw [T.get_set _ _ _ _ (by rw [natBlt, decide_eq_true_eq] at h1; exact h1)] at hq
          split at hq
          · rename_i e
            cases hq
            rw [e, h2, obB_eq h3]
          · exact ht j q hq
theorem subM_spec {s : Snap} (h : subM s σ = true) : s.mem.nxt = σ.nxt ∧ ∀ id o, s.mem.objs.get id = some o → σ.objs.get id = some o := by
  unfold subM at h
  cases h1 : Nat.beq s.nxt σ.nxt with
  | false => rw [h1] at h; cases h
  | true =>
    rw [h1, cond_true] at h
    exact ⟨Nat.eq_of_beq_eq_true h1, hasL_get s.obs .leaf h (fun id o ho => by rw [T.get_leaf] at ho; cases ho)⟩
theorem Rel.drop (h : Rel G μ N0 σ w) (hn : τ.nxt = σ.nxt) (hs : ∀ id o, τ.objs.get id = some o → σ.objs.get id = some o) : Rel G μ N0 τ w :=
  ⟨h.glob, by rw [hn]; exact h.gnxt, by rw [hn]; exact h.lim, fun id o ho => by rw [hn]; exact h.ob id o (hs id o ho), fun i j o p hij ho hp => h.sep i j o p hij (hs i o ho) (hs j p hp), h.base⟩
theorem Ext.drop (h : Ext μ τ w μ' σ' w') (hn : τ.nxt = σ.nxt) (hs : ∀ id o, τ.objs.get id = some o → σ.objs.get id = some o) : Ext μ σ w μ' σ' w' where
  agree := by rw [← hn]; exact h.agree
  nxt := by rw [← hn]; exact h.nxt
  os := h.os
  tape := h.tape
  output := h.output
  size := h.size
  frame b hb hno := h.frame b hb fun id o ho hm => hno id o (hs id o ho) hm
  muts id o ho hm := by
    rcases h.muts id o ho hm with k | ⟨i, p, k1, k2, k3⟩
    · exact .inl k
    · exact .inr ⟨i, p, hs i p k1, k2, k3⟩
  lives id o ho hm := by
    rcases h.lives id o ho hm with k | ⟨i, p, k1, k2, k3⟩
    · exact .inl k
    · exact .inr ⟨i, p, hs i p k1, k2, k3⟩
theorem Ext.dropEnd (h : Ext μ σ w μ' σ' w') (hn : τ.nxt = σ'.nxt) (hs : ∀ id o, τ.objs.get id = some o → σ'.objs.get id = some o) : Ext μ σ w μ' τ w' where
  agree := h.agree
  nxt := by rw [hn]; exact h.nxt
  os := h.os
  tape := h.tape
  output := h.output
  size := h.size
  frame := h.frame
  muts id o ho hm := h.muts id o (hs id o ho) hm
  lives id o ho hm := h.lives id o (hs id o ho) hm

noncomputable def frB : FR → FR → Bool
  | .ret v, .ret u => vEq v u
  | .panic, .panic => true
  | _, _ => false
theorem frB_eq {a b : FR} (h : frB a b = true) : a = b := by
  cases a <;> cases b <;> first | rfl | (cases h; done) | (rw [vEq_eq _ _ h])
/-- A call told ahead. -/
noncomputable def ckS (F : FuncId) (args : Array Value) (s : Snap) (r : FR) (out : Snap) : CallF := fun f a σ =>
  cond (Nat.beq f F) (cond (vEqA a args) (cond (subM s σ) (some (r, out.mem)) none) none) none
noncomputable def ckOk (call : CallF) (F : FuncId) (args : Array Value) (s : Snap) (r : FR) (out : Snap) : Bool :=
  match call F args s.mem with
  | some (r', σ') => cond (frB r r') (subM out σ') false
  | none => false
theorem ckS_ok {call : CallF} (hc : CallOk P G call) {F : FuncId} {args : Array Value} {s out : Snap} {r : FR} (h : ckOk call F args s r out = true) : CallOk P G (ckS F args s r out) := by
  intro f a σ r' σ' hb μ N0 w hr hw
  unfold ckS at hb
  cases h1 : Nat.beq f F with
  | false => rw [h1] at hb; cases hb
  | true =>
    rw [h1, cond_true] at hb
    cases h2 : vEqA a args with
    | false => rw [h2] at hb; cases hb
    | true =>
      rw [h2, cond_true] at hb
      cases h3 : subM s σ with
      | false => rw [h3] at hb; cases hb
      | true =>
        rw [h3, cond_true] at hb; cases hb
        have e1 := Nat.eq_of_beq_eq_true h1
        have e2 := vEqA_eq _ _ h2
        subst e1; subst e2
        obtain ⟨n1, s1⟩ := subM_spec h3
        unfold ckOk at h
        cases hcl : call f a s.mem with
        | none => rw [hcl] at h; cases h
        | some q =>
          obtain ⟨r'', σ''⟩ := q
          rw [hcl] at h; simp only at h
          cases h4 : frB r r'' with
          | false => rw [h4] at h; cases h
          | true =>
            rw [h4, cond_true] at h
            have e3 := frB_eq h4
            subst e3
            obtain ⟨n2, s2⟩ := subM_spec h
            refine (hc f a s.mem _ σ'' hcl μ N0 w (hr.drop n1 s1) (by rw [n1]; exact hw)).mono ?_
            rintro en w' ⟨μ', r1, x1, k⟩
            refine ⟨μ', r1.drop n2 s2, (x1.dropEnd n2 s2).drop n1 s1, ?_⟩
            cases r with
            | ret v => exact ⟨k.1, by rw [n2]; exact k.2⟩
            | panic => exact k
end Vai

namespace Vai
open Go Go.RowKit
variable {P : Program} {G : Sym} {μ : Mu} {N0 : Nat} {σ τ : Mem} {w w' : World}

/-! Contracts of functions as summaries of calls: what a call leaves as it was is told as it was. -/
theorem Rel.below (h : Rel G μ N0 σ w) (hb : Below w.heap.size w w') : Rel G μ N0 σ w' where
  glob := h.glob
  gnxt := h.gnxt
  lim := h.lim
  ob id o ho := by
    obtain ⟨h1, h2, h3⟩ := h.ob id o ho
    refine ⟨h1, h2, ?_⟩
    by_cases hl : o.live
    · exact ObOk.keep (w := w) (n := σ.nxt) (fun _ _ => rfl) h1 h2 (hb.block _ (h3.blk_lt hl)) h3
    · cases o <;> simp [Ob.live] at hl; trivial
  sep := h.sep
  base := Nat.le_trans h.base hb.size
theorem Ext.ofBelow (hb : Below w.heap.size w w') : Ext μ σ w μ σ w' :=
  ⟨fun _ _ => rfl, Nat.le_refl _, hb.os, hb.tape, hb.output, hb.size, fun b hlt _ => hb.block b hlt, fun id o h hm => .inr ⟨id, o, h, hm, rfl⟩, fun id o h hm => .inr ⟨id, o, h, hm, rfl⟩⟩

/-- A call of these arguments gives this value, and leaves the memory as it was. -/
noncomputable def toldS (F : FuncId) (args : List Value) (v : Value) : CallF := fun f a σ =>
  cond (Nat.beq f F) (cond (vEqL a.toList args) (some (.ret v, σ)) none) none
def ToldOk (P : Program) (G : Sym) (F : FuncId) (args : List Value) (v : Value) : Prop := ∀ W, Calls P F ⟨args.map (gv G)⟩ W fun e w' => e = .returned (gv G v) ∧ Below W.heap.size W w'
theorem toldS_ok {F : FuncId} {args : List Value} {v : Value} (hG : ∀ i, named (G i)) (ha : args.all nameB = true) (hv : nameB v = true) (hc : ToldOk P G F args v) : CallOk P G (toldS F args v) := by
  intro f a σ r σ' hb μ N0 w h hw
  unfold toldS at hb
  cases hf : Nat.beq f F with
  | false => rw [hf] at hb; cases hb
  | true =>
    rw [hf, cond_true] at hb
    have hfe := Nat.eq_of_beq_eq_true hf
    subst hfe
    cases he : vEqL a.toList args with
    | false => rw [he] at hb; cases hb
    | true =>
      rw [he, cond_true] at hb
      cases hb
      have hl := vEqL_eq _ _ he
      have hconc : concA μ a = ⟨args.map (gv G)⟩ := by
        rw [concA_map]
        apply Array.ext'
        simp only [Array.toList_map]
        rw [hl]
        exact List.map_congr_left fun v hv => conc_name G hG h.glob (List.all_eq_true.1 ha v hv)
      rw [hconc]
      refine (hc w).mono ?_
      rintro en w' ⟨rfl, hbl⟩
      exact ⟨μ, h.below hbl, Ext.ofBelow hbl, by rw [conc_name G hG h.glob hv], wf_name h.gnxt hv⟩

theorem val_of_eval {call : CallF} (hc : CallOk P G call) {f : FuncId} {args : Array Value} {v : Value} {σ : Mem} (hw : wfA 8192 args) (hv : constOk v = true) (he : call f args mem0 = some (.ret v, σ)) (W : World) :
    Calls P f (concA (mu0 G) args) W fun e w' => e = .returned v ∧ Below W.heap.size W w' := by
  refine Calls.mono (hc f args mem0 _ σ he (mu0 G) W.heap.size W (rel0 G W) hw) ?_
  rintro en w' ⟨μ', hr, hx, hm⟩
  exact ⟨by rw [hm.1, conc_const _ _ hv], hx.below (rel0 G W)⟩
theorem named_const {v : Value} (h : named v) : constOk v = true := by cases v <;> first | rfl | exact h.elim
theorem gv_const (hG : ∀ i, named (G i)) {v : Value} (h : nameB v = true) : constOk (gv G v) = true := by
  cases v with
  | chan r =>
    cases r with
    | none => exact h
    | some r => exact named_const (hG _)
  | _ => exact h
/-- The evaluator's own word on a call whose arguments are plain. -/
noncomputable def pureOk (call : CallF) (F : FuncId) (G : Sym) (args : List Value) (v : Value) : Bool :=
  match call F ⟨mapN (gv G) args⟩ mem0 with
  | some (.ret u, _) => vEq u (gv G v)
  | _ => false
theorem pureOk_ok {call : CallF} {F : FuncId} {args : List Value} {v : Value} (hG : ∀ i, named (G i)) (hc : CallOk P G call) (ha : args.all nameB = true) (hv : nameB v = true) (h : pureOk call F G args v = true) : ToldOk P G F args v := by
  intro W
  unfold pureOk at h
  split at h
  · rename_i u σ he
    have hu := vEq_eq _ _ h
    have hcl : ∀ x ∈ args.map (gv G), constOk x = true := by
      intro x hx
      obtain ⟨y, hy, rfl⟩ := List.mem_map.1 hx
      exact gv_const hG (List.all_eq_true.1 ha y hy)
    rw [mapN_eq] at he
    have hw : wfA 8192 ⟨args.map (gv G)⟩ := (wfL_iff _ _).2 fun x hx => wf_const _ _ (hcl x hx)
    have := val_of_eval hc hw (by rw [hu]; exact gv_const hG hv) he W
    rw [hu] at this
    have hconc : concA (mu0 G) ⟨args.map (gv G)⟩ = ⟨args.map (gv G)⟩ := by
      rw [concA_map]
      apply Array.ext'
      simp only [Array.toList_map]
      rw [show (args.map (gv G)).map (conc (mu0 G)) = (args.map (gv G)).map id from List.map_congr_left fun x hx => conc_const _ _ (hcl x hx), List.map_id]
    rw [hconc] at this
    exact this
  · cases h

/-- A check sum of a row of bytes. -/
def SumOk (P : Program) (F : FuncId) : Prop := ∀ (b o n c : Nat) (bs : List UInt8) (W : World), bs.length = n → (∀ (i : Nat) (x : UInt8), bs[i]? = some x → W.cell? ⟨b, o + i, none⟩ = some (.int .u8 (.ofNat x.toNat))) →
  n ≤ 1099511627776 → Calls P F #[.slice (some ⟨b, o, none⟩) n c] W fun e w' => e = .returned (.int .u32 (.ofNat (crcR bs))) ∧ Below W.heap.size W w'
noncomputable def findC (l : List (List Value × Value)) (bs : List Value) : Option Value :=
  List.rec (motive := fun _ => Option Value) none (fun p _ ih => cond (lsEq p.1 bs) (some p.2) ih) l
theorem findC_mem {bs : List Value} {v : Value} : ∀ {l : List (List Value × Value)}, findC l bs = some v → (bs, v) ∈ l
  | [], h => by cases h
  | p :: l, h => by
    have h' : cond (lsEq p.1 bs) (some p.2) (findC l bs) = some v := h
    cases hx : lsEq p.1 bs with
    | false => rw [hx] at h'; exact List.mem_cons_of_mem _ (findC_mem h')
    | true =>
      rw [hx, cond_true] at h'; cases h'
      obtain ⟨a, b⟩ := p
      have := lsEq_eq hx
      simp only at this
      subst this
      exact List.mem_cons_self
noncomputable def sumS (F : FuncId) (N : Names) (crcs : List (List Value × Value)) : CallF := fun f a σ =>
  cond (Nat.beq f F) (match a with
    | ⟨[.slice (some ad) n _]⟩ => match σ.cells ad n with
      | some l => cond (allN (byteN N) l && Nat.ble n 1099511627776) (match bytesOf l with
        | some bs => some (.ret (.int .u32 (.ofNat (crcR bs))), σ)
        | none => match findC crcs l with
          | some v => some (.ret v, σ)
          | none => none) none
      | none => none
    | _ => none) none
def CrcOk (G : Sym) (crcs : List (List Value × Value)) : Prop := ∀ p ∈ crcs, nameB p.2 = true ∧ ∀ bs, p.1.map (gv G) = byteVals bs → gv G p.2 = .int .u32 (.ofNat (crcR bs))
theorem bytesOf_gv2 {l : List Value} {bs : List UInt8} (h : bytesOf l = some bs) {cs : List UInt8} (hc : l.map (gv G) = byteVals cs) : bs = cs := by
  obtain ⟨_, ns, rfl, rfl⟩ := bytesOf_spec l bs h
  have : ns.map (Value.int .u8) = byteVals cs := by
    rw [← hc, List.map_map]; rfl
  have h2 := bytesOf_byteVals cs
  rw [← this] at h2
  rw [h] at h2
  exact Option.some.inj h2
theorem sumS_ok {F : FuncId} {N : Names} {crcs : List (List Value × Value)} (hN : NamesOk G N) (hF : SumOk P F) (hC : CrcOk G crcs) : CallOk P G (sumS F N crcs) := by
  intro f a σ r σ' hb μ N0 w h hw
  unfold sumS at hb
  cases hf : Nat.beq f F with
  | false => rw [hf] at hb; cases hb
  | true =>
    rw [hf, cond_true] at hb
    have hfe := Nat.eq_of_beq_eq_true hf
    subst hfe
    split at hb
    · rename_i ad n c
      cases hl : σ.cells ad n with
      | none => rw [hl] at hb; cases hb
      | some l =>
        rw [hl] at hb; simp only at hb
        cases hal : (allN (byteN N) l && Nat.ble n 1099511627776) with
        | false => rw [hal] at hb; cases hb
        | true =>
          rw [hal, cond_true] at hb
          simp only [Bool.and_eq_true] at hal
          obtain ⟨hal, hn⟩ := hal
          have hn := Nat.le_of_ble_eq_true hn
          obtain ⟨k1, bs, k2⟩ := bytesN_ok hN hal
          obtain ⟨s1, s2⟩ := Mem.cells_spec hl
          have hlen : bs.length = n := by
            have := congrArg List.length k2
            simp only [List.length_map, byteVals] at this
            omega
          have hcell : ∀ (i : Nat) (x : UInt8), bs[i]? = some x → w.cell? ⟨(μ.addr ad).block, (μ.addr ad).off + i, none⟩ = some (.int .u8 (.ofNat x.toNat)) := by
            intro i x hx
            have hi : i < bs.length := by
              rcases Nat.lt_or_ge i bs.length with h1 | h1
              · exact h1
              · rw [List.getElem?_eq_none h1] at hx; cases hx
            have hli : i < l.length := by rw [s1, ← hlen]; exact hi
            have hv := List.getElem?_eq_getElem hli
            have hc := h.cell (s2 i _ hv)
            have hsp : ad.spot = none := by
              unfold Mem.cells at hl
              rw [natBeq, cond_decide, if_neg (by omega)] at hl
              cases hs : ad.spot with
              | none => rfl
              | some s => rw [hs] at hl; cases hl
            rw [← Mu.addr_add _ _ _ hsp] at hc
            have he : (μ.addr ad).add i = ⟨(μ.addr ad).block, (μ.addr ad).off + i, none⟩ := by
              unfold Addr.add
              by_cases h0 : i = 0
              · simp only [h0, if_true, Nat.add_zero, Mu.addr]
              · simp only [h0, if_false, Mu.addr]
            rw [he] at hc
            rw [hc.1, conc_name G hN.named h.glob (k1 _ (List.mem_of_getElem? hv))]
            have := congrArg (fun m => m[i]?) k2
            simp only [List.getElem?_map, hv, Option.map_some, byteVals, hx, Option.some.injEq] at this
            rw [this]
          have hcall := hF (μ.addr ad).block (μ.addr ad).off n (μ.cap ad.block c) bs w hlen hcell hn
          have hconc : concA μ ⟨[.slice (some ad) n c]⟩ = #[.slice (some ⟨(μ.addr ad).block, (μ.addr ad).off, none⟩) n (μ.cap ad.block c)] := rfl
          rw [hconc]
          refine hcall.mono ?_
          rintro en w' ⟨rfl, hbl⟩
          cases hby : bytesOf l with
          | some cs =>
            rw [hby] at hb; cases hb
            exact ⟨μ, h.below hbl, Ext.ofBelow hbl, by rw [bytesOf_gv2 hby k2]; rfl, trivial⟩
          | none =>
            rw [hby] at hb; simp only at hb
            cases hfc : findC crcs l with
            | none => rw [hfc] at hb; cases hb
            | some v =>
              rw [hfc] at hb; cases hb
              obtain ⟨c1, c2⟩ := hC _ (findC_mem hfc)
              exact ⟨μ, h.below hbl, Ext.ofBelow hbl, by rw [conc_name G hN.named h.glob c1, c2 bs k2], wf_name h.gnxt c1⟩
    · cases hb
end Vai

namespace Vai
open Go Go.RowKit
variable {P : Program} {G : Sym} {μ μ' : Mu} {N0 : Nat} {σ τ σ' : Mem} {w w' : World}

/-! Calls told ahead, beside which objects lie that the call does not reach. -/
noncomputable def hasId (l : List (Nat × Ob)) (i : Nat) : Bool := List.rec (motive := fun _ => Bool) false (fun p _ ih => cond (Nat.beq p.1 i) true ih) l
noncomputable def inL (l : List Nat) (i : Nat) : Bool := List.rec (motive := fun _ => Bool) false (fun a _ ih => cond (Nat.beq a i) true ih) l
def ancOb : Ob → List Nat
  | .row r => r.anc
  | _ => []
noncomputable def hasAnc (l : List (Nat × Ob)) (i : Nat) : Bool := List.rec (motive := fun _ => Bool) false (fun p _ ih => cond (inL (ancOb p.2) i) true ih) l
noncomputable def noneIn (l : List (Nat × Ob)) (a : List Nat) : Bool := List.rec (motive := fun _ => Bool) true (fun i _ ih => cond (hasId l i) false ih) a
/-- What lies beside: no object of the call's, ahead of none of these, and none of these ahead of it. -/
noncomputable def apartB (s ex : List (Nat × Ob)) : Bool :=
  List.rec (motive := fun _ => Bool) true (fun p _ ih => cond (hasId s p.1) false (cond (hasAnc s p.1) false (cond (noneIn s (ancOb p.2)) ih false))) ex
theorem hasId_mem : ∀ {l : List (Nat × Ob)} {i : Nat}, hasId l i = false → ∀ p ∈ l, p.1 ≠ i
  | [], _, _, p, hp => absurd hp (by simp)
  | q :: l, i, h, p, hp => by
    have h' : cond (Nat.beq q.1 i) true (hasId l i) = false := h
    rw [natBeq, cond_decide] at h'
    split at h'
    · cases h'
    · rcases List.mem_cons.1 hp with rfl | hp
      · assumption
      · exact hasId_mem h' p hp
theorem inL_mem : ∀ {l : List Nat} {i : Nat}, inL l i = false → i ∉ l
  | [], _, _ => by simp
  | a :: l, i, h => by
    have h' : cond (Nat.beq a i) true (inL l i) = false := h
    rw [natBeq, cond_decide] at h'
    split at h'
    · cases h'
    · intro hm
      rcases List.mem_cons.1 hm with e | hm
      · exact absurd e.symm (by assumption)
      · exact inL_mem h' hm
theorem hasAnc_mem : ∀ {l : List (Nat × Ob)} {i : Nat}, hasAnc l i = false → ∀ p ∈ l, i ∉ ancOb p.2
  | [], _, _, p, hp => absurd hp (by simp)
  | q :: l, i, h, p, hp => by
    have h' : cond (inL (ancOb q.2) i) true (hasAnc l i) = false := h
    cases hq : inL (ancOb q.2) i with
    | true => rw [hq] at h'; cases h'
    | false =>
      rw [hq, cond_false] at h'
      rcases List.mem_cons.1 hp with rfl | hp
      · exact inL_mem hq
      · exact hasAnc_mem h' p hp
theorem noneIn_mem {l : List (Nat × Ob)} : ∀ {a : List Nat}, noneIn l a = true → ∀ i ∈ a, ∀ p ∈ l, p.1 ≠ i
  | [], _, i, hi, _, _ => absurd hi (by simp)
  | x :: a, h, i, hi, p, hp => by
    have h' : cond (hasId l x) false (noneIn l a) = true := h
    cases hx : hasId l x with
    | true => rw [hx] at h'; cases h'
    | false =>
      rw [hx, cond_false] at h'
      rcases List.mem_cons.1 hi with rfl | hi
      · exact hasId_mem hx p hp
      · exact noneIn_mem h' i hi p hp
theorem apartB_mem {s : List (Nat × Ob)} : ∀ {ex : List (Nat × Ob)}, apartB s ex = true → ∀ p ∈ ex, (∀ q ∈ s, q.1 ≠ p.1) ∧ (∀ q ∈ s, p.1 ∉ ancOb q.2) ∧ ∀ i ∈ ancOb p.2, ∀ q ∈ s, q.1 ≠ i
  | [], _, p, hp => absurd hp (by simp)
  | x :: ex, h, p, hp => by
    have h' : cond (hasId s x.1) false (cond (hasAnc s x.1) false (cond (noneIn s (ancOb x.2)) (apartB s ex) false)) = true := h
    cases h1 : hasId s x.1 with
    | true => rw [h1] at h'; cases h'
    | false =>
      cases h2 : hasAnc s x.1 with
      | true => rw [h1, h2] at h'; cases h'
      | false =>
        cases h3 : noneIn s (ancOb x.2) with
        | false => rw [h1, h2, h3] at h'; cases h'
        | true =>
          rw [h1, h2, h3] at h'
          rcases List.mem_cons.1 hp with rfl | hp
          · exact ⟨hasId_mem h1, hasAnc_mem h2, fun i hi q hq => noneIn_mem h3 i hi q hq⟩
          · exact apartB_mem h' p hp
theorem layT_mem : ∀ (l : List (Nat × Ob)) (t : T Ob), (∀ p ∈ l, p.1 < 1099511627776) → ∀ id o, (layT l t).get id = some o → (∃ p ∈ l, p.1 = id ∧ p.2 = o) ∨ t.get id = some o
  | [], t, _, id, o, h => .inr h
  | p :: l, t, hl, id, o, h => by
    rcases layT_mem l (t.set p.1 p.2) (fun q hq => hl q (List.mem_cons_of_mem _ hq)) id o h with ⟨q, h1, h2⟩ | h1
    · exact .inl ⟨q, List.mem_cons_of_mem _ h1, h2⟩
    · rw [T.get_set _ _ _ _ (hl p List.mem_cons_self)] at h1
      split at h1
      · rename_i e
        cases h1
        exact .inl ⟨p, List.mem_cons_self, e.symm, rfl⟩
      · exact .inr h1
theorem layT_over : ∀ (l : List (Nat × Ob)) (t : T Ob), (∀ p ∈ l, p.1 < 1099511627776) → ∀ id o, (layT l t).get id = some o → (layT l .leaf).get id = some o ∨ ((layT l .leaf).get id = none ∧ t.get id = some o) := by
  have key : ∀ (l : List (Nat × Ob)) (t u : T Ob), (∀ p ∈ l, p.1 < 1099511627776) → ∀ id, ((layT l t).get id = (layT l u).get id) ∨ ((layT l t).get id = t.get id ∧ (layT l u).get id = u.get id) := by
    intro l
    induction l with
    | nil => intro t u _ id; exact .inr ⟨rfl, rfl⟩
    | cons p l ih =>
      intro t u hl id
      rcases ih (t.set p.1 p.2) (u.set p.1 p.2) (fun q hq => hl q (List.mem_cons_of_mem _ hq)) id with h | ⟨h1, h2⟩
      · exact .inl h
      · rw [T.get_set _ _ _ _ (hl p List.mem_cons_self)] at h1 h2
        by_cases e : id = p.1
        · rw [if_pos e] at h1 h2
          exact .inl (h1.trans h2.symm)
        · rw [if_neg e] at h1 h2
          exact .inr ⟨h1, h2⟩
  intro l t hl id o h
  rcases key l t .leaf hl id with k | ⟨k1, k2⟩
  · exact .inl (by rw [← k]; exact h)
  · exact .inr ⟨by rw [k2, T.get_leaf], by rw [← k1]; exact h⟩
theorem hasL_mem : ∀ {l : List (Nat × Ob)}, hasL σ l = true → ∀ p ∈ l, p.1 < 1099511627776 ∧ σ.objs.get p.1 = some p.2
  | [], _, p, hp => absurd hp (by simp)
  | q :: l, h, p, hp => by
    rw [hasL_cons] at h
    cases h1 : Nat.blt q.1 1099511627776 with
    | false => rw [h1] at h; cases h
    | true =>
      rw [h1, cond_true] at h
      cases h2 : σ.objs.get q.1 with
      | none => rw [h2] at h; cases h
      | some o =>
        rw [h2] at h; simp only at h
        cases h3 : obB q.2 o with
        | false => rw [h3] at h; cases h
        | true =>
          rw [h3, cond_true] at h
          rcases List.mem_cons.1 hp with rfl | hp
          · exact ⟨by rw [natBlt, decide_eq_true_eq] at h1; exact h1, by rw [h2, obB_eq h3]⟩
          · exact hasL_mem h p hp
noncomputable def ltB (l : List (Nat × Ob)) : Bool := List.rec (motive := fun _ => Bool) true (fun p _ ih => cond (Nat.blt p.1 1099511627776) ih false) l
theorem ltB_mem : ∀ {l : List (Nat × Ob)}, ltB l = true → ∀ p ∈ l, p.1 < 1099511627776
  | [], _, p, hp => absurd hp (by simp)
  | q :: l, h, p, hp => by
    have h' : cond (Nat.blt q.1 1099511627776) (ltB l) false = true := h
    cases h1 : Nat.blt q.1 1099511627776 with
    | false => rw [h1] at h'; cases h'
    | true =>
      rw [h1, cond_true] at h'
      rcases List.mem_cons.1 hp with rfl | hp
      · rw [natBlt, decide_eq_true_eq] at h1; exact h1
      · exact ltB_mem h' p hp
noncomputable def besideM (out : Snap) (ex : List (Nat × Ob)) : Mem := ⟨out.nxt, layT out.obs (layT ex .leaf)⟩
theorem besideRel {s out : Snap} {ex : List (Nat × Ob)} (hr : Rel G μ N0 σ w) (hn : s.mem.nxt = σ.nxt) (hs : ∀ id o, s.mem.objs.get id = some o → σ.objs.get id = some o) (hsl : ∀ p ∈ s.obs, p.1 < 1099511627776) (hol : ∀ p ∈ out.obs, p.1 < 1099511627776)
    (hex : hasL σ ex = true) (ha : apartB s.obs ex = true) (r1 : Rel G μ' N0 out.mem w') (x1 : Ext μ s.mem w μ' out.mem w') : Rel G μ' N0 (besideM out ex) w' ∧ Ext μ σ w μ' (besideM out ex) w' := by
  have hexm := hasL_mem hex
  have hap := apartB_mem ha
  -- an object beside
  have exG : ∀ j o, (layT ex .leaf).get j = some o → σ.objs.get j = some o ∧ (∀ q ∈ s.obs, q.1 ≠ j) ∧ (∀ q ∈ s.obs, j ∉ ancOb q.2) ∧ ∀ i ∈ ancOb o, ∀ q ∈ s.obs, q.1 ≠ i := by
    intro j o h
    rcases layT_mem ex .leaf (fun p hp => (hexm p hp).1) j o h with ⟨p, h1, rfl, rfl⟩ | h1
    · exact ⟨(hexm p h1).2, (hap p h1).1, (hap p h1).2.1, (hap p h1).2.2⟩
    · rw [T.get_leaf] at h1; cases h1
  have sG : ∀ i o, s.mem.objs.get i = some o → ∃ p ∈ s.obs, p.1 = i ∧ p.2 = o := by
    intro i o h
    rcases layT_mem s.obs .leaf hsl i o h with h1 | h1
    · exact h1
    · rw [T.get_leaf] at h1; cases h1
  have get : ∀ j o, (besideM out ex).objs.get j = some o → out.mem.objs.get j = some o ∨ (layT ex .leaf).get j = some o := by
    intro j o h
    rcases layT_over out.obs (layT ex .leaf) hol j o h with h1 | ⟨_, h1⟩
    · exact .inl h1
    · exact .inr h1
  have K1 : ∀ i oi j oj, s.mem.objs.get i = some oi → oi.mut → (layT ex .leaf).get j = some oj → oj.live → (μ i).blk ≠ (μ j).blk := by
    intro i oi j oj hi hm hj hl e
    obtain ⟨p, p1, p2, p3⟩ := sG i oi hi
    obtain ⟨e1, e2, e3, e4⟩ := exG j oj hj
    have hij : i ≠ j := fun h => e2 p p1 (p2.trans h)
    have hli : oi.live := by cases oi <;> first | trivial | exact hm.elim
    rcases hr.sep i j oi oj hij (hs i oi hi) e1 hli hl e with h | h
    · cases oi <;> cases oj <;> first | exact h.elim | skip
      exact hm h.1
    · cases oi <;> cases oj <;> first | exact h.elim | skip
      rename_i ri rj
      rcases h.2 with h2 | ⟨_, h2, _⟩
      · exact hm h2
      · exact e3 p p1 (by rw [p3]; exact h2)
  have blkEx : ∀ j oj, (layT ex .leaf).get j = some oj → (μ' j).blk = (μ j).blk ∧ j < σ.nxt := by
    intro j oj hj
    have h1 := (hr.ob j oj (exG j oj hj).1).1
    exact ⟨by rw [x1.agree j (by rw [hn]; exact h1)], h1⟩
  have ltEx : ∀ j oj, (layT ex .leaf).get j = some oj → oj.live → (μ j).blk < w.heap.size := fun j oj hj hl => (hr.ob j oj (exG j oj hj).1).2.2.blk_lt hl
  have hag : Agree σ.nxt μ μ' := by rw [← hn]; exact x1.agree
  -- an object of the call's end in the block of one beside is only read, and so is that one
  have mixed : ∀ i oi j oj, out.mem.objs.get i = some oi → oi.live → (layT ex .leaf).get j = some oj → oj.live → (μ' i).blk = (μ' j).blk → Shares μ' i j oi oj := by
    intro i oi j oj hi li hj lj e
    rw [(blkEx j oj hj).1] at e
    have hlt := ltEx j oj hj lj
    have hro : ¬ oi.mut := by
      intro hm
      rcases x1.muts i oi hi hm with h1 | ⟨i1, o1, h1, h2, h3⟩
      · omega
      · exact K1 i1 o1 j oj h1 h2 hj lj (h3.trans e)
    rcases x1.lives i oi hi li with h1 | ⟨i0, o0, h1, h2, h3⟩
    · omega
    · obtain ⟨p, p1, p2, p3⟩ := sG i0 o0 h1
      obtain ⟨e1, e2, e3, e4⟩ := exG j oj hj
      have hij : i0 ≠ j := fun h => e2 p p1 (p2.trans h)
      have hjro : ∃ rj, oj = .row rj ∧ rj.kind = .ro := by
        rcases hr.sep i0 j o0 oj hij (hs i0 o0 h1) e1 h2 lj (h3.trans e) with h | h
        · cases o0 <;> cases oj <;> first | exact h.elim | skip
          rename_i r0 rj
          rcases h.2 with h4 | ⟨_, h4, _⟩
          · exact ⟨rj, rfl, h4⟩
          · exact absurd p2 (e4 i0 h4 p p1)
        · cases o0 <;> cases oj <;> first | exact h.elim | skip
          rename_i r0 rj
          exact ⟨rj, rfl, h.1⟩
      obtain ⟨rj, rfl, hk⟩ := hjro
      cases oi with
      | row ri =>
        have hki : ri.kind = .ro := by
          rcases Classical.em (ri.kind = .ro) with h5 | h5
          · exact h5
          · exact absurd h5 hro
        exact ⟨hki, .inl hk⟩
      | dead => exact li.elim
      | _ => exact absurd trivial hro
  refine ⟨⟨r1.glob, r1.gnxt, r1.lim, ?_, ?_, r1.base⟩, ⟨hag, by rw [← hn]; exact x1.nxt, x1.os, x1.tape, x1.output, x1.size, ?_, ?_, ?_⟩⟩
  · intro j o ho
    rcases get j o ho with h1 | h1
    · exact r1.ob j o h1
    · obtain ⟨e1, e2, e3, e4⟩ := exG j o h1
      obtain ⟨k1, k2, k3⟩ := hr.ob j o e1
      have hle : σ.nxt ≤ out.mem.nxt := by rw [← hn]; exact x1.nxt
      refine ⟨Nat.lt_of_lt_of_le k1 hle, Ob.wf_mono hle k2, ?_⟩
      by_cases hl : o.live
      · exact ObOk.keep hag k1 k2 (x1.frame _ (k3.blk_lt hl) fun i oi hi hm => K1 i oi j o hi hm h1 hl) k3
      · cases o <;> simp [Ob.live] at hl; trivial
  · intro i j oi oj hij hi hj li lj e
    rcases get i oi hi with h1 | h1
    · rcases get j oj hj with h2 | h2
      · exact r1.sep i j oi oj hij h1 h2 li lj e
      · exact .inl (mixed i oi j oj h1 li h2 lj e)
    · rcases get j oj hj with h2 | h2
      · exact .inr (mixed j oj i oi h2 lj h1 li e.symm)
      · have e' : (μ i).blk = (μ j).blk := by rw [← (blkEx i oi h1).1, ← (blkEx j oj h2).1]; exact e
        rcases hr.sep i j oi oj hij (exG i oi h1).1 (exG j oj h2).1 li lj e' with h | h
        · exact .inl (Shares.keep hag (blkEx i oi h1).2 (blkEx j oj h2).2 h)
        · exact .inr (Shares.keep hag (blkEx j oj h2).2 (blkEx i oi h1).2 h)
  · intro b hb hno
    exact x1.frame b hb fun i o ho hm => hno i o (hs i o ho) hm
  · intro j o ho hm
    rcases get j o ho with h1 | h1
    · rcases x1.muts j o h1 hm with k | ⟨i, p, k1, k2, k3⟩
      · exact .inl k
      · exact .inr ⟨i, p, hs i p k1, k2, k3⟩
    · exact .inr ⟨j, o, (exG j o h1).1, hm, (blkEx j o h1).1.symm⟩
  · intro j o ho hm
    rcases get j o ho with h1 | h1
    · rcases x1.lives j o h1 hm with k | ⟨i, p, k1, k2, k3⟩
      · exact .inl k
      · exact .inr ⟨i, p, hs i p k1, k2, k3⟩
    · exact .inr ⟨j, o, (exG j o h1).1, hm, (blkEx j o h1).1.symm⟩
/-- A call told ahead, and what lies beside. -/
noncomputable def ckE (F : FuncId) (args : Array Value) (s : Snap) (ex : List (Nat × Ob)) (r : FR) (out : Snap) : CallF := fun f a σ =>
  cond (Nat.beq f F) (cond (vEqA a args) (cond (subM s σ) (cond (hasL σ ex) (some (r, besideM out ex)) none) none) none) none
noncomputable def ckEOk (s : Snap) (ex : List (Nat × Ob)) (out : Snap) : Bool := cond (ltB s.obs) (cond (ltB out.obs) (apartB s.obs ex) false) false
theorem ckE_ok {call : CallF} (hc : CallOk P G call) {F : FuncId} {args : Array Value} {s out : Snap} {ex : List (Nat × Ob)} {r : FR} (h : ckOk call F args s r out = true) (he : ckEOk s ex out = true) : CallOk P G (ckE F args s ex r out) := by
  intro f a σ r' σ' hb μ N0 w hr hw
  unfold ckEOk at he
  cases b1 : ltB s.obs with
  | false => rw [b1] at he; cases he
  | true =>
  cases b2 : ltB out.obs with
  | false => rw [b1, b2] at he; cases he
  | true =>
  rw [b1, b2, cond_true, cond_true] at he
  unfold ckE at hb
  cases h1 : Nat.beq f F with
  | false => rw [h1] at hb; cases hb
  | true =>
    rw [h1, cond_true] at hb
    cases h2 : vEqA a args with
    | false => rw [h2] at hb; cases hb
    | true =>
      rw [h2, cond_true] at hb
      cases h3 : subM s σ with
      | false => rw [h3] at hb; cases hb
      | true =>
        rw [h3, cond_true] at hb
        cases h5 : hasL σ ex with
        | false => rw [h5] at hb; cases hb
        | true =>
        rw [h5, cond_true] at hb; cases hb
        have e1 := Nat.eq_of_beq_eq_true h1
        have e2 := vEqA_eq _ _ h2
        subst e1; subst e2
        obtain ⟨n1, s1⟩ := subM_spec h3
        unfold ckOk at h
        cases hcl : call f a s.mem with
        | none => rw [hcl] at h; cases h
        | some q =>
          obtain ⟨r'', σ''⟩ := q
          rw [hcl] at h; simp only at h
          cases h4 : frB r r'' with
          | false => rw [h4] at h; cases h
          | true =>
            rw [h4, cond_true] at h
            have e3 := frB_eq h4
            subst e3
            obtain ⟨n2, s2⟩ := subM_spec h
            refine (hc f a s.mem _ σ'' hcl μ N0 w (hr.drop n1 s1) (by rw [n1]; exact hw)).mono ?_
            rintro en w' ⟨μ', r1, x1, k⟩
            obtain ⟨q1, q2⟩ := besideRel hr n1 s1 (ltB_mem b1) (ltB_mem b2) h5 he (r1.drop n2 s2) (x1.dropEnd n2 s2)
            refine ⟨μ', q1, q2, ?_⟩
            cases r with
            | ret v => exact ⟨k.1, by
                have : out.mem.nxt = σ''.nxt := n2
                show wf out.mem.nxt v
                rw [this]; exact k.2⟩
            | panic => exact k
end Vai

namespace Vai
open Go Go.RowKit
variable {P : Program} {G G' : Sym}

/-! What names are by their makings: facts that hold for all values of the first names. -/
def refB (n : Nat) : Value → Bool
  | .chan (some r) => Nat.ble 4096 r && Nat.blt r (4096 + n)
  | _ => true
noncomputable def refsB (n : Nat) (d : NDef) : Bool :=
  match d with
  | .ent _ a b => refB n a && refB n b
  | .str l => allN (refB n) l
  | .crc l => allN (refB n) l
  | .idx _ x _ _ => refB n x
theorem gv_congr {n : Nat} (hG : ∀ i, i < n → G i = G' i) {v : Value} (h : refB n v = true) : gv G v = gv G' v := by
  cases v with
  | chan r =>
    cases r with
    | none => rfl
    | some r =>
      simp only [refB, Bool.and_eq_true, natBlt, decide_eq_true_eq] at h
      exact hG _ (by have := Nat.le_of_ble_eq_true h.1; omega)
  | _ => rfl
theorem mapN_congr {n : Nat} (hG : ∀ i, i < n → G i = G' i) {l : List Value} (h : allN (refB n) l = true) : mapN (gv G) l = mapN (gv G') l := by
  rw [mapN_eq, mapN_eq]
  rw [allN_eq] at h
  exact List.map_congr_left fun v hv => gv_congr hG (List.all_eq_true.1 h v hv)
theorem defE_congr {n : Nat} (hG : ∀ i, i < n → G i = G' i) {d : NDef} (h : refsB n d = true) : defE G d = defE G' d := by
  cases d with
  | ent c a b =>
    simp only [refsB, Bool.and_eq_true] at h
    simp only [defE, gv_congr hG h.1, gv_congr hG h.2]
  | str l => simp only [defE, mapN_congr hG (show allN (refB n) l = true from h)]
  | crc l => simp only [defE, mapN_congr hG (show allN (refB n) l = true from h)]
  | idx k x lo l => simp only [defE, gv_congr hG (show refB n x = true from h)]

theorem symL_get {l : List Value} {i : Nat} {v : Value} (h : l[i]? = some v) : symL l i = v := by
  unfold symL
  rw [idxR_eq, h]
theorem mkVals_cons (d : NDef) (ds : List NDef) (l : List Value) : mkVals (d :: ds) l = mkVals ds (l ++ [defE (symL l) d]) := rfl
theorem mkVals_low : ∀ (ds : List NDef) (l : List Value) (i : Nat), i < l.length → (mkVals ds l)[i]? = l[i]?
  | [], _, _, _ => rfl
  | d :: ds, l, i, h => by
    rw [mkVals_cons, mkVals_low ds _ i (by simp; omega), List.getElem?_append_left h]
theorem mkVals_len : ∀ (ds : List NDef) (l : List Value), (mkVals ds l).length = l.length + ds.length
  | [], _ => rfl
  | d :: ds, l => by rw [mkVals_cons, mkVals_len ds]; simp; omega
theorem symL_low (ds : List NDef) (l : List Value) (i : Nat) (h : i < l.length) : symL (mkVals ds l) i = symL l i := by
  unfold symL
  rw [idxR_eq, idxR_eq, mkVals_low ds l i h]
theorem mkVals_def : ∀ {ds : List NDef} {l : List Value} {j : Nat} {d : NDef}, ds[j]? = some d → refsB (l.length + j) d = true → symL (mkVals ds l) (l.length + j) = defE (symL (mkVals ds l)) d
  | [], _, _, _, h, _ => by simp at h
  | d0 :: ds, l, 0, d, h, hr => by
    cases h
    rw [mkVals_cons, Nat.add_zero, symL_low ds _ l.length (by simp), symL_get (v := defE (symL l) d0) (by simp)]
    refine defE_congr (n := l.length) (fun i hi => ?_) hr
    rw [symL_low ds _ i (by simp; omega)]
    unfold symL
    rw [idxR_eq, idxR_eq, List.getElem?_append_left hi]
  | d0 :: ds, l, j + 1, d, h, hr => by
    have hl : (l ++ [defE (symL l) d0]).length = l.length + 1 := by simp
    have := mkVals_def (ds := ds) (l := l ++ [defE (symL l) d0]) (j := j) (d := d) (by simpa using h) (by rw [hl, show l.length + 1 + j = l.length + (j + 1) by omega]; exact hr)
    rw [hl, show l.length + 1 + j = l.length + (j + 1) by omega] at this
    exact this

/-! Kinds -/
def loK (k : IntKind) : Int := cond k.signed (.negSucc (posMax k)) (.ofNat 0)
def hiK (k : IntKind) : Int := cond k.signed (.ofNat (posMax k)) (.ofNat (modK k - 1))
def inK (k : IntKind) (n : Int) : Bool := cond (ilt n (loK k)) false (!ilt (hiK k) n)
theorem inK_iff (k : IntKind) (n : Int) : inK k n = true ↔ loK k ≤ n ∧ n ≤ hiK k := by
  unfold inK
  rw [ilt_eq, ilt_eq, cond_decide]
  split
  · rename_i h; simp; omega
  · rename_i h; simp; omega
theorem umod_lt (k : IntKind) (n : Int) : umod (modK k) n < modK k := by
  have hM : 0 < modK k := by cases k <;> decide
  have e := umod_eq (modK k) hM n
  have := Int.emod_lt_of_pos n (show (0 : Int) < (modK k : Int) by omega)
  omega
theorem wrapK_rng (k : IntKind) (n : Int) : inK k (wrapK k n) = true := by
  rw [inK_iff]
  have := umod_lt k n
  unfold wrapK loK hiK
  rw [natBle, cond_decide]
  cases hs : k.signed with
  | false => simp only [cond_false, Int.ofNat_eq_natCast]; omega
  | true =>
    simp only [cond_true]
    have h2 : modK k = 2 * (posMax k + 1) := by cases k <;> first | (cases hs; done) | decide
    split
    · rename_i h; simp only [Int.ofNat_eq_natCast, Int.negSucc_eq]; omega
    · rename_i h; simp only [Int.ofNat_eq_natCast, Int.negSucc_eq]; omega
theorem lo_zero {k : IntKind} (h : k.signed = false) : loK k = 0 := by unfold loK; rw [h]; rfl
theorem nat_of {k : IntKind} (h : k.signed = false) {n : Int} (hn : inK k n = true) : ∃ m : Nat, n = .ofNat m ∧ m < modK k := by
  rw [inK_iff, lo_zero h] at hn
  have hM : 0 < modK k := by cases k <;> decide
  refine ⟨n.toNat, ?_, ?_⟩
  · simp only [Int.ofNat_eq_natCast]; omega
  · have : hiK k = ((modK k - 1 : Nat) : Int) := by unfold hiK; rw [h]; rfl
    omega

def KInv (G : Sym) (ks : List (Option IntKind)) : Prop := ∀ i k, ks[i]? = some (some k) → ∃ n, G i = .int k n ∧ inK k n = true
noncomputable def kOfI (ks : List (Option IntKind)) (q : Nat) : Option IntKind := match idxR ks q with
  | some o => o
  | none => none
noncomputable def kOfV (ks : List (Option IntKind)) (v : Value) : Option IntKind :=
  match v with
  | .int k n => cond (inK k n) (some k) none
  | .chan (some r) => kOfI ks (r - 4096)
  | _ => none
theorem gv_chan (r : Nat) : gv G (.chan (some r)) = G (r - 4096) := by unfold gv; rfl
theorem kOfV_chan (ks : List (Option IntKind)) (r : Nat) : kOfV ks (.chan (some r)) = kOfI ks (r - 4096) := rfl
theorem kOfI_ok {ks : List (Option IntKind)} (h : KInv G ks) {q : Nat} {k : IntKind} (hv : kOfI ks q = some k) : ∃ n, G q = .int k n ∧ inK k n = true := by
  unfold kOfI at hv
  rw [idxR_eq] at hv
  split at hv
  · rename_i o ho
    subst hv
    exact h _ _ ho
  · cases hv
theorem kOfV_ok {ks : List (Option IntKind)} (h : KInv G ks) {v : Value} {k : IntKind} (hv : kOfV ks v = some k) : ∃ n, gv G v = .int k n ∧ inK k n = true := by
  cases v with
  | int k' n =>
    have hv' : cond (inK k' n) (some k') none = some k := hv
    cases hi : inK k' n with
    | false => rw [hi] at hv'; cases hv'
    | true => rw [hi] at hv'; cases hv'; exact ⟨n, rfl, hi⟩
  | chan r =>
    cases r with
    | none => cases hv
    | some r =>
      obtain ⟨n, h1, h2⟩ := kOfI_ok h ((kOfV_chan ks r).symm.trans hv)
      exact ⟨n, (gv_chan r).trans h1, h2⟩
  | _ => cases hv
def kEq (a b : IntKind) : Bool := Nat.beq (kCode a) (kCode b)
theorem kEq_eq {a b : IntKind} (h : kEq a b = true) : a = b := kCode_inj (Nat.eq_of_beq_eq_true h)
noncomputable def posC (v : Value) : Bool := match v with
  | .int _ (.ofNat n) => Nat.blt 0 n
  | _ => false
noncomputable def natC (v : Value) : Bool := match v with
  | .int _ (.ofNat _) => true
  | _ => false
/-- The kind of what an operation gives, where it gives something for all values of these kinds. -/
noncomputable def kindOp (op : BinOp) (ka kb : IntKind) (b : Value) : Bool :=
  match op with
  | .add | .sub | .mul => kEq ka kb
  | .quo | .rem => kEq ka kb && posC b
  | .and | .or | .xor | .andNot => kEq ka kb && !ka.signed
  | .shr | .shl => !ka.signed && natC b
  | _ => false
noncomputable def kindE (ks : List (Option IntKind)) (c : Nat) (a b : Value) : Option IntKind :=
  match kOfV ks a with
  | none => none
  | some ka => cond (Nat.blt c 32) (match kOfV ks b with
    | some kb => cond (kindOp (opOf c) ka kb b) (some ka) none
    | none => none) (cond (Nat.blt c 40) (some (kOf (c - 32))) none)
theorem tmod_in {k : IntKind} {a b : Int} (hb : 0 < b) (ha : inK k a = true) : inK k (a.tmod b) = true := by
  rw [inK_iff] at *
  have hlo : loK k ≤ 0 := by unfold loK; cases k <;> decide
  have hhi : 0 ≤ hiK k := by unfold hiK; cases k <;> decide
  have e : (a.tmod b).natAbs ≤ a.natAbs := by rw [Int.natAbs_tmod]; exact Nat.mod_le _ _
  rcases Int.le_total 0 a with h | h
  · have := Int.tmod_nonneg b h
    omega
  · have : a.tmod b ≤ 0 := by
      have h1 := Int.tmod_nonneg b (show 0 ≤ -a by omega)
      rw [Int.neg_tmod] at h1
      omega
    omega
theorem kindOp_ok {op : BinOp} {ka kb : IntKind} {x y : Int} {b : Value} (h : kindOp op ka kb b = true) (hx : inK ka x = true) (hy : inK kb y = true) (hb : gv G b = .int kb y) (hbc : posC b = true ∨ natC b = true → b = .int kb y) :
    ∃ n, binV op (.int ka x) (.int kb y) = some (.int ka n) ∧ inK ka n = true := by
  have main : ∀ n, op ≠ .shl → op ≠ .shr → kEq ka kb = true → aInt op ka x y = some (some (.int ka n)) → binV op (.int ka x) (.int kb y) = some (.int ka n) := by
    intro n h1 h2 hk ha
    have hk' : Nat.beq (kCode ka) (kCode kb) = true := hk
    unfold binV
    cases op <;> simp only <;> first | (exact absurd rfl h1) | (exact absurd rfl h2) | (rw [hk', cond_true, ha])
  have bitsN : ∀ (hk : kEq ka kb = true) (hs : ka.signed = false), ∃ m n, x = .ofNat m ∧ y = .ofNat n ∧ (Nat.blt m (modK ka) && Nat.blt n (modK ka)) = true := by
    intro hk hs
    have := kEq_eq hk
    subst this
    obtain ⟨m, rfl, hm⟩ := nat_of hs hx
    obtain ⟨n, rfl, hn⟩ := nat_of hs hy
    exact ⟨m, n, rfl, rfl, by rw [natBlt, natBlt]; simp [hm, hn]⟩
  cases op <;> simp only [kindOp] at h <;> (try (cases h; done))
  case add => exact ⟨_, main _ (by simp) (by simp) h rfl, wrapK_rng _ _⟩
  case sub => exact ⟨_, main _ (by simp) (by simp) h rfl, wrapK_rng _ _⟩
  case mul => exact ⟨_, main _ (by simp) (by simp) h rfl, wrapK_rng _ _⟩
  case quo =>
    simp only [Bool.and_eq_true] at h
    have e := hbc (.inl h.2)
    have hp : 0 < y := by
      have := h.2; rw [e] at this
      cases y with
      | ofNat n => simp only [posC, natBlt, decide_eq_true_eq] at this; simp only [Int.ofNat_eq_natCast]; omega
      | negSucc n => cases this
    refine ⟨_, main (wrapK ka (x.tdiv y)) (by simp) (by simp) h.1 ?_, wrapK_rng _ _⟩
    have : ieq y 0 = false := by rw [ieq_eq]; simp; omega
    simp only [aInt, this, cond_false]
  case rem =>
    simp only [Bool.and_eq_true] at h
    have e := hbc (.inl h.2)
    have hp : 0 < y := by
      have := h.2; rw [e] at this
      cases y with
      | ofNat n => simp only [posC, natBlt, decide_eq_true_eq] at this; simp only [Int.ofNat_eq_natCast]; omega
      | negSucc n => cases this
    refine ⟨_, main (x.tmod y) (by simp) (by simp) h.1 ?_, tmod_in hp hx⟩
    have : ieq y 0 = false := by rw [ieq_eq]; simp; omega
    simp only [aInt, this, cond_false]
  case and =>
    simp only [Bool.and_eq_true, Bool.not_eq_true'] at h
    obtain ⟨m, n, rfl, rfl, hc⟩ := bitsN h.1 h.2
    exact ⟨wrapK ka (.ofNat (Nat.land m n)), main _ (by simp) (by simp) h.1 (by simp only [aInt, aBits, hc, cond_true, Option.map_some]), wrapK_rng _ _⟩
  case or =>
    simp only [Bool.and_eq_true, Bool.not_eq_true'] at h
    obtain ⟨m, n, rfl, rfl, hc⟩ := bitsN h.1 h.2
    exact ⟨wrapK ka (.ofNat (Nat.lor m n)), main _ (by simp) (by simp) h.1 (by simp only [aInt, aBits, hc, cond_true, Option.map_some]), wrapK_rng _ _⟩
  case xor =>
    simp only [Bool.and_eq_true, Bool.not_eq_true'] at h
    obtain ⟨m, n, rfl, rfl, hc⟩ := bitsN h.1 h.2
    exact ⟨wrapK ka (.ofNat (Nat.xor m n)), main _ (by simp) (by simp) h.1 (by simp only [aInt, aBits, hc, cond_true, Option.map_some]), wrapK_rng _ _⟩
  case andNot =>
    simp only [Bool.and_eq_true, Bool.not_eq_true'] at h
    obtain ⟨m, n, rfl, rfl, hc⟩ := bitsN h.1 h.2
    exact ⟨wrapK ka (.ofNat (Nat.land m (modK ka - 1 - n))), main _ (by simp) (by simp) h.1 (by simp only [aInt, aBits, hc, cond_true, Option.map_some]), wrapK_rng _ _⟩
  case shl =>
    simp only [Bool.and_eq_true, Bool.not_eq_true'] at h
    have e := hbc (.inr h.2)
    obtain ⟨m, rfl, hm⟩ := nat_of h.1 hx
    have hy2 : ∃ n, y = .ofNat n := by
      have := h.2; rw [e] at this
      cases y with
      | ofNat n => exact ⟨n, rfl⟩
      | negSucc n => cases this
    obtain ⟨n, rfl⟩ := hy2
    exact ⟨_, rfl, wrapK_rng _ _⟩
  case shr =>
    simp only [Bool.and_eq_true, Bool.not_eq_true'] at h
    have e := hbc (.inr h.2)
    obtain ⟨m, rfl, hm⟩ := nat_of h.1 hx
    have hy2 : ∃ n, y = .ofNat n := by
      have := h.2; rw [e] at this
      cases y with
      | ofNat n => exact ⟨n, rfl⟩
      | negSucc n => cases this
    obtain ⟨n, rfl⟩ := hy2
    refine ⟨_, rfl, ?_⟩
    have hle : Nat.shiftRight m (cond (Nat.ble n ka.bits) n ka.bits) ≤ m := by
      rw [show Nat.shiftRight m (cond (Nat.ble n ka.bits) n ka.bits) = m >>> (cond (Nat.ble n ka.bits) n ka.bits) from rfl, Nat.shiftRight_eq_div_pow]
      exact Nat.div_le_self _ _
    rw [inK_iff, lo_zero h.1]
    have : hiK ka = ((modK ka - 1 : Nat) : Int) := by unfold hiK; rw [h.1]; rfl
    rw [this]
    simp only [Int.ofNat_eq_natCast]
    omega
theorem vEq_int (k : IntKind) (n : Int) : vEq (.int k n) (.int k n) = true := by
  simp only [vEq, decide_true, cond_true, ieq_eq, beq_self_eq_true]
/-- An entry holds by its making. -/
theorem kindE_ok {ks : List (Option IntKind)} (hK : KInv G ks) {c : Nat} {a b : Value} {k : IntKind} (h : kindE ks c a b = some k) :
    ∃ n, entE c (gv G a) (gv G b) = .int k n ∧ inK k n = true ∧ entV c (gv G a) (gv G b) (entE c (gv G a) (gv G b)) = true := by
  unfold kindE at h
  cases ha : kOfV ks a with
  | none => rw [ha] at h; cases h
  | some ka =>
    rw [ha] at h; simp only at h
    obtain ⟨x, hx1, hx2⟩ := kOfV_ok hK ha
    rw [natBlt, cond_decide] at h
    by_cases hc : c < 32
    · rw [if_pos hc] at h
      cases hb : kOfV ks b with
      | none => rw [hb] at h; cases h
      | some kb =>
        rw [hb] at h; simp only at h
        obtain ⟨y, hy1, hy2⟩ := kOfV_ok hK hb
        cases ho : kindOp (opOf c) ka kb b with
        | false => rw [ho] at h; cases h
        | true =>
          rw [ho] at h; cases h
          have hbc : posC b = true ∨ natC b = true → b = .int kb y := by
            intro hp
            cases b with
            | int k' n' => rw [← hy1]; rfl
            | _ => rcases hp with hp | hp <;> cases hp
          obtain ⟨n, h1, h2⟩ := kindOp_ok ho hx2 hy2 hy1 hbc
          have hc' : Nat.blt c 32 = true := by rw [natBlt]; simpa using hc
          refine ⟨n, ?_, h2, ?_⟩
          · rw [hx1, hy1]; unfold entE; rw [hc', cond_true, h1]
          · rw [hx1, hy1]; unfold entV entE; rw [hc', cond_true, cond_true, h1]; simp only [isV, vEq_int]
    · rw [if_neg hc] at h
      rw [natBlt, cond_decide] at h
      by_cases hc2 : c < 40
      · rw [if_pos hc2] at h; cases h
        have hc' : Nat.blt c 32 = false := by rw [natBlt]; simpa using hc
        have hc4 : Nat.blt c 64 = true := by rw [natBlt]; simp; omega
        have hc7 : Nat.beq c 70 = false := by rw [natBeq]; simp; omega
        have he : entE c (.int ka x) (gv G b) = .int (kOf (c - 32)) (wrapK (kOf (c - 32)) x) := by unfold entE; rw [hc', cond_false, hc7, cond_false]
        refine ⟨_, by rw [hx1]; exact he, wrapK_rng _ _, ?_⟩
        rw [hx1, he]
        unfold entV
        rw [hc', cond_false, hc4, cond_true]
        simp only
        have hk : 32 + kCode (kOf (c - 32)) = c := by
          have : ∀ n, n < 8 → kCode (kOf n) = n := by decide
          rw [this _ (by omega)]; omega
        rw [hk, Nat.beq_refl, ieq_eq]
        simp
      · rw [if_neg hc2] at h; cases h

/-! The check sum is a number of 32 bits. -/
theorem crcStep_lt {x : Nat} (h : x < 2 ^ 32) : crcStep x < 2 ^ 32 := by
  unfold crcStep
  refine Nat.xor_lt_two_pow ?_ ?_
  · show x >>> 1 < _
    rw [Nat.shiftRight_eq_div_pow]
    exact Nat.lt_of_le_of_lt (Nat.div_le_self _ _) h
  · have : Nat.land x 1 ≤ 1 := Nat.and_le_right
    show 3988292384 * Nat.land x 1 < _
    omega
theorem crcByte_lt {x c : Nat} (h : x < 2 ^ 32) (hc : c < 256) : crcByte x c < 2 ^ 32 := by
  unfold crcByte
  have h0 : Nat.xor x c < 2 ^ 32 := Nat.xor_lt_two_pow h (by omega)
  exact crcStep_lt (crcStep_lt (crcStep_lt (crcStep_lt (crcStep_lt (crcStep_lt (crcStep_lt (crcStep_lt h0)))))))
theorem crcL_lt : ∀ (l : List UInt8) {x : Nat}, x < 2 ^ 32 → crcL l x < 2 ^ 32
  | [], x, h => h
  | b :: l, x, h => by
    show crcL l (crcByte x b.toNat) < _
    exact crcL_lt l (crcByte_lt h b.toNat_lt)
theorem crcR_lt (l : List UInt8) : crcR l < 2 ^ 32 := Nat.xor_lt_two_pow (crcL_lt l (by decide)) (by decide)
theorem bytes_of_kinds {ks : List (Option IntKind)} (hK : KInv G ks) : ∀ {l : List Value}, allN (fun v => match kOfV ks v with
    | some k => kEq k .u8
    | none => false) l = true → ∃ bs, l.map (gv G) = byteVals bs
  | [], _ => ⟨[], rfl⟩
  | v :: l, h => by
    rw [allN_eq, List.all_cons, Bool.and_eq_true, ← allN_eq] at h
    obtain ⟨h1, h2⟩ := h
    obtain ⟨bs, hbs⟩ := bytes_of_kinds hK h2
    split at h1
    · rename_i k hk
      have := kEq_eq h1
      subst this
      obtain ⟨n, h3, h4⟩ := kOfV_ok hK hk
      obtain ⟨m, rfl, hm⟩ := nat_of rfl h4
      have hm : m < 256 := hm
      refine ⟨UInt8.ofNat m :: bs, ?_⟩
      rw [List.map_cons, h3, hbs]
      simp only [byteVals, List.map_cons, UInt8.toNat_ofNat']
      congr 3
      omega
    · cases h1
noncomputable def u8L (ks : List (Option IntKind)) (l : List Value) : Bool := allN (fun v => match kOfV ks v with
    | some k => kEq k .u8
    | none => false) l
noncomputable def allI (p : Int → Bool) (l : List Int) : Bool := List.rec (motive := fun _ => Bool) true (fun z _ ih => cond (p z) ih false) l
theorem allI_mem {p : Int → Bool} : ∀ {l : List Int}, allI p l = true → ∀ z ∈ l, p z = true
  | [], _, z, hz => absurd hz (by simp)
  | x :: l, h, z, hz => by
    have h' : cond (p x) (allI p l) false = true := h
    cases hx : p x with
    | false => rw [hx] at h'; cases h'
    | true =>
      rw [hx, cond_true] at h'
      rcases List.mem_cons.1 hz with rfl | hz
      · exact hx
      · exact allI_mem h' z hz
theorem inK_zero (k : IntKind) : inK k 0 = true := by cases k <;> rfl
/-- The kind that a making gives. -/
noncomputable def kindD (ks : List (Option IntKind)) (d : NDef) : Option IntKind :=
  match d with
  | .ent c a b => kindE ks c a b
  | .crc l => cond (u8L ks l) (some .u32) none
  | .idx k _ _ l => cond (allI (inK k) l) (some k) none
  | _ => none
noncomputable def ksOf (ds : List NDef) : List (Option IntKind) → List (Option IntKind) :=
  List.rec (motive := fun _ => List (Option IntKind) → List (Option IntKind)) (fun l => l) (fun d _ ih l => ih (l ++ [kindD l d])) ds
noncomputable def refsAll (ds : List NDef) : Nat → Bool :=
  List.rec (motive := fun _ => Nat → Bool) (fun _ => true) (fun d _ ih n => cond (refsB n d) (ih (Nat.succ n)) false) ds
theorem refsAll_get : ∀ {ds : List NDef} {n j : Nat} {d : NDef}, refsAll ds n = true → ds[j]? = some d → refsB (n + j) d = true
  | [], _, _, _, _, h => by simp at h
  | x :: ds, n, j, d, h, hj => by
    have h' : cond (refsB n x) (refsAll ds (n + 1)) false = true := h
    cases hx : refsB n x with
    | false => rw [hx] at h'; cases h'
    | true =>
      rw [hx, cond_true] at h'
      cases j with
      | zero => cases hj; exact hx
      | succ j => have := refsAll_get h' (show ds[j]? = some d by simpa using hj); rw [show n + (j + 1) = n + 1 + j by omega]; exact this
theorem ksOf_inv : ∀ {ds : List NDef} {l : List Value} {ks : List (Option IntKind)}, ks.length = l.length → KInv (symL l) ks → KInv (symL (mkVals ds l)) (ksOf ds ks)
  | [], l, ks, _, h => h
  | d :: ds, l, ks, hl, h => by
    show KInv (symL (mkVals ds (l ++ [defE (symL l) d]))) (ksOf ds (ks ++ [kindD ks d]))
    refine ksOf_inv (by simp [hl]) ?_
    intro i k hi
    by_cases hlt : i < ks.length
    · rw [List.getElem?_append_left hlt] at hi
      obtain ⟨n, h1, h2⟩ := h i k hi
      refine ⟨n, ?_, h2⟩
      rw [← h1]
      unfold symL
      rw [idxR_eq, idxR_eq, List.getElem?_append_left (by omega)]
    · rw [List.getElem?_append_right (by omega)] at hi
      have hi0 : i - ks.length = 0 := by
        rcases Nat.eq_zero_or_pos (i - ks.length) with h0 | h0
        · exact h0
        · rw [List.getElem?_eq_none (by simp; omega)] at hi; cases hi
      rw [hi0] at hi
      simp only [List.getElem?_cons_zero, Option.some.injEq] at hi
      have hil : i = l.length := by omega
      have hg : symL (l ++ [defE (symL l) d]) i = defE (symL l) d := symL_get (by rw [hil]; simp)
      rw [hg]
      cases d with
      | ent c a b =>
        obtain ⟨n, h1, h2, _⟩ := kindE_ok h (show kindE ks c a b = some k from hi)
        exact ⟨n, h1, h2⟩
      | crc l' =>
        have hi : cond (u8L ks l') (some IntKind.u32) none = some k := hi
        cases hu : u8L ks l' with
        | false => rw [hu] at hi; cases hi
        | true =>
          rw [hu] at hi; cases hi
          obtain ⟨bs, hbs⟩ := bytes_of_kinds h hu
          refine ⟨.ofNat (crcR bs), ?_, ?_⟩
          · show (match bytesOf (mapN (gv (symL l)) l') with
              | some bs => Value.int .u32 (.ofNat (crcR bs))
              | none => .int .i64 0) = _
            rw [mapN_eq, hbs, bytesOf_byteVals]
          · have := crcR_lt bs
            rw [inK_iff]
            show (0 : Int) ≤ ((crcR bs : Nat) : Int) ∧ ((crcR bs : Nat) : Int) ≤ ((4294967296 - 1 : Nat) : Int)
            omega
      | str l' => cases hi
      | idx k' x lo l' =>
        have hi : cond (allI (inK k') l') (some k') none = some k := hi
        cases hu : allI (inK k') l' with
        | false => rw [hu] at hi; cases hi
        | true =>
          rw [hu] at hi; cases hi
          show ∃ n, (match gv (symL l) x with
            | .int _ (.ofNat n) => match idxR l' (Nat.sub n lo) with
              | some z => Value.int k z
              | none => .int k 0
            | _ => .int k 0) = .int k n ∧ _
          split
          · split
            · rename_i z hz
              rw [idxR_eq] at hz
              exact ⟨z, rfl, allI_mem hu z (List.mem_of_getElem? hz)⟩
            · exact ⟨0, rfl, inK_zero k⟩
          · exact ⟨0, rfl, inK_zero k⟩

/-! Facts of a table that hold by the makings. -/
noncomputable def symEnt (ks : List (Option IntKind)) (ds : List NDef) (nb : Nat) (e : Ent) : Bool :=
  match e.v with
  | .chan (some r) => cond (Nat.ble (4096 + nb) r && Nat.blt r 8192) (match idxR ds (r - (4096 + nb)) with
    | some (.ent c a b) => cond (Nat.beq c e.code && (vEq a e.a && (vEq b e.b && (nameB a && nameB b)))) (match kindE ks c a b with
      | some _ => true
      | none => false) false
    | _ => false) false
  | _ => false
noncomputable def symStr (ks : List (Option IntKind)) (ds : List NDef) (nb i : Nat) (l : List Value) : Bool :=
  cond (Nat.ble nb i) (match idxR ds (i - nb) with
    | some (.str l') => cond (vEqL l' l) (cond (u8L ks l) (allN nameB l) false) false
    | _ => false) false
noncomputable def symRng (ks : List (Option IntKind)) (i : Nat) (k : IntKind) (lo hi : Int) : Bool :=
  match idxR ks i with
  | some (some k') => kEq k' k && (!ilt (loK k) lo && !ilt hi (hiK k))
  | _ => false
noncomputable def allE (p : Ent → Bool) (l : List Ent) : Bool := List.rec (motive := fun _ => Bool) true (fun e _ ih => cond (p e) ih false) l
theorem allE_mem {p : Ent → Bool} : ∀ {l : List Ent}, allE p l = true → ∀ e ∈ l, p e = true
  | [], _, e, he => absurd he (by simp)
  | x :: l, h, e, he => by
    have h' : cond (p x) (allE p l) false = true := h
    cases hx : p x with
    | false => rw [hx] at h'; cases h'
    | true =>
      rw [hx, cond_true] at h'
      rcases List.mem_cons.1 he with rfl | he
      · exact hx
      · exact allE_mem h' e he
noncomputable def symInfo (ks : List (Option IntKind)) (ds : List NDef) (nb i : Nat) (f : NInfo) : Bool :=
  cond (match f.rng with
    | some (k, lo, hi) => symRng ks i k lo hi
    | none => true) (cond (match f.str with
    | some l => symStr ks ds nb i l
    | none => true) (allE (symEnt ks ds nb) f.ents) false) false
noncomputable def symTab (ks : List (Option IntKind)) (ds : List NDef) (nb : Nat) (l : List NInfo) : Nat → Bool :=
  List.rec (motive := fun _ => Nat → Bool) (fun _ => true) (fun f _ ih i => cond (symInfo ks ds nb i f) (ih (Nat.succ i)) false) l
theorem symInfo_ok {ks : List (Option IntKind)} {ds : List NDef} {l : List Value} (hK : KInv (symL (mkVals ds l)) ks) (hr : refsAll ds l.length = true) {i : Nat} {f : NInfo} (h : symInfo ks ds l.length i f = true) : InfoOk (symL (mkVals ds l)) i f := by
  unfold symInfo at h
  cases h1 : (match f.rng with
    | some (k, lo, hi) => symRng ks i k lo hi
    | none => true) with
  | false => rw [h1] at h; cases h
  | true =>
    rw [h1, cond_true] at h
    cases h2 : (match f.str with
      | some l' => symStr ks ds l.length i l'
      | none => true) with
    | false => rw [h2] at h; cases h
    | true =>
      rw [h2, cond_true] at h
      refine ⟨?_, ?_, ?_⟩
      · intro k lo hi hrng
        rw [hrng] at h1
        simp only at h1
        unfold symRng at h1
        rw [idxR_eq] at h1
        split at h1
        · rename_i k' hk
          simp only [Bool.and_eq_true, Bool.not_eq_true', ilt_eq, decide_eq_false_iff_not] at h1
          have := kEq_eq h1.1
          subst this
          obtain ⟨n, g1, g2⟩ := hK _ _ hk
          rw [inK_iff] at g2
          exact ⟨n, g1, by omega, by omega⟩
        · cases h1
      · intro l' hs
        rw [hs] at h2
        simp only at h2
        unfold symStr at h2
        rw [natBle, cond_decide] at h2
        split at h2
        · rename_i hle
          rw [idxR_eq] at h2
          split at h2
          · rename_i l2 hd
            cases hv : vEqL l2 l' with
            | false => rw [hv] at h2; cases h2
            | true =>
              rw [hv, cond_true] at h2
              have e := vEqL_eq _ _ hv
              subst e
              cases hu : u8L ks l2 with
              | false => rw [hu] at h2; cases h2
              | true =>
                rw [hu, cond_true] at h2
                obtain ⟨bs, hbs⟩ := bytes_of_kinds hK hu
                have hsub : ds[i - l.length]? = some (.str l2) := hd
                have hdef := mkVals_def (l := l) hsub (refsAll_get hr hsub)
                rw [show l.length + (i - l.length) = i by omega] at hdef
                refine ⟨by rw [← allN_eq]; exact h2, ⟨⟨bs⟩⟩, ?_, hbs⟩
                rw [hdef]
                show (match bytesOf (mapN (gv (symL (mkVals ds l))) l2) with
                  | some bs => Value.string ⟨⟨bs⟩⟩
                  | none => .int .i64 0) = _
                rw [mapN_eq, hbs, bytesOf_byteVals]
          · cases h2
        · cases h2
      · intro e he
        have he := allE_mem h e he
        unfold symEnt at he
        split at he
        · rename_i r hv
          rw [natBle, natBlt] at he
          by_cases hc : 4096 + l.length ≤ r ∧ r < 8192
          · rw [decide_eq_true hc.1, decide_eq_true hc.2] at he
            simp only [Bool.and_self, cond_true] at he
            rw [idxR_eq] at he
            split at he
            · rename_i c a b hd
              cases hq : (Nat.beq c e.code && (vEq a e.a && (vEq b e.b && (nameB a && nameB b)))) with
              | false => rw [hq] at he; cases he
              | true =>
                rw [hq, cond_true] at he
                simp only [Bool.and_eq_true] at hq
                obtain ⟨q1, q2, q3, q4, q5⟩ := hq
                have e1 := Nat.eq_of_beq_eq_true q1
                have e2 := vEq_eq _ _ q2
                have e3 := vEq_eq _ _ q3
                split at he
                · rename_i k hk
                  obtain ⟨n, g1, g2, g3⟩ := kindE_ok hK hk
                  have hsub : ds[r - (4096 + l.length)]? = some (.ent c a b) := hd
                  have hdef := mkVals_def (l := l) hsub (refsAll_get hr hsub)
                  rw [show l.length + (r - (4096 + l.length)) = r - 4096 by omega] at hdef
                  have hdef : symL (mkVals ds l) (r - 4096) = entE c (gv (symL (mkVals ds l)) a) (gv (symL (mkVals ds l)) b) := hdef
                  have hvn : nameB e.v = true := by
                    rw [hv]
                    simp only [nameB, Bool.and_eq_true]
                    exact ⟨Nat.ble_eq_true_of_le (by omega), by rw [natBlt]; simpa using hc.2⟩
                  refine ⟨by rw [← e2]; exact q4, by rw [← e3]; exact q5, hvn, ?_⟩
                  rw [← e1, ← e2, ← e3, hv]
                  show entV c _ _ (symL (mkVals ds l) (r - 4096)) = true
                  rw [hdef]; exact g3
                · cases he
            · cases he
          · exfalso
            rcases Classical.not_and_iff_not_or_not.1 hc with h5 | h5 <;> simp [h5] at he
        · cases he
theorem symTab_ok {ks : List (Option IntKind)} {ds : List NDef} {l : List Value} (hK : KInv (symL (mkVals ds l)) ks) (hr : refsAll ds l.length = true) : ∀ {tab : List NInfo} {i : Nat}, symTab ks ds l.length tab i = true → ∀ j f, tab[j]? = some f → InfoOk (symL (mkVals ds l)) (i + j) f
  | [], _, _, j, f, hf => by simp at hf
  | x :: tab, i, h, j, f, hf => by
    have h' : cond (symInfo ks ds l.length i x) (symTab ks ds l.length tab (i + 1)) false = true := h
    cases hx : symInfo ks ds l.length i x with
    | false => rw [hx] at h'; cases h'
    | true =>
      rw [hx, cond_true] at h'
      cases j with
      | zero => cases hf; exact symInfo_ok hK hr hx
      | succ j => have := symTab_ok hK hr h' j f (by simpa using hf); rw [show i + (j + 1) = i + 1 + j by omega]; exact this

/-! Two tables of the same names. -/
noncomputable def orO {α : Type} (a b : Option α) : Option α := match a with
  | some x => some x
  | none => b
noncomputable def unionT (l : List NInfo) : List NInfo → List NInfo :=
  List.rec (motive := fun _ => List NInfo → List NInfo) (fun m => m) (fun f l ih m => match m with
    | [] => f :: l
    | g :: m => ⟨orO f.rng g.rng, orO f.str g.str, f.ents ++ g.ents⟩ :: ih m) l
theorem InfoOk.union {i : Nat} {f g : NInfo} (hf : InfoOk G i f) (hg : InfoOk G i g) : InfoOk G i ⟨orO f.rng g.rng, orO f.str g.str, f.ents ++ g.ents⟩ where
  rng k lo hi h := by
    simp only [orO] at h
    split at h
    · rename_i x hx; cases h; exact hf.rng _ _ _ hx
    · exact hg.rng _ _ _ h
  str l h := by
    simp only [orO] at h
    split at h
    · rename_i x hx; cases h; exact hf.str _ hx
    · exact hg.str _ h
  ents e he := by
    rcases List.mem_append.1 he with h | h
    · exact hf.ents e h
    · exact hg.ents e h
def TabOk (G : Sym) (tab : List NInfo) : Prop := ∀ j f, tab[j]? = some f → InfoOk G j f
theorem unionT_get : ∀ (l m : List NInfo) (j : Nat) (h : NInfo), (unionT l m)[j]? = some h → (l[j]? = some h ∧ m[j]? = none) ∨ (l[j]? = none ∧ m[j]? = some h) ∨ ∃ f g, l[j]? = some f ∧ m[j]? = some g ∧ h = ⟨orO f.rng g.rng, orO f.str g.str, f.ents ++ g.ents⟩
  | [], m, j, h, hj => .inr (.inl ⟨rfl, hj⟩)
  | f :: l, [], j, h, hj => .inl ⟨hj, rfl⟩
  | f :: l, g :: m, 0, h, hj => by
    have : some (⟨orO f.rng g.rng, orO f.str g.str, f.ents ++ g.ents⟩ : NInfo) = some h := hj
    exact .inr (.inr ⟨f, g, rfl, rfl, (Option.some.inj this).symm⟩)
  | f :: l, g :: m, j + 1, h, hj => by
    have hj' : (unionT l m)[j]? = some h := hj
    exact unionT_get l m j h hj'
theorem TabOk.union {l m : List NInfo} (hl : TabOk G l) (hm : TabOk G m) : TabOk G (unionT l m) := by
  intro j h hj
  rcases unionT_get l m j h hj with ⟨h1, _⟩ | ⟨_, h1⟩ | ⟨f, g, h1, h2, rfl⟩
  · exact hl j h h1
  · exact hm j h h1
  · exact (hl j f h1).union (hm j g h2)
/-- Names that are whole numbers or texts by their makings. -/
noncomputable def namD (d : NDef) : Bool := match d with
  | .ent c _ _ => cond (Nat.blt c 11) true (Nat.ble 32 c)
  | _ => true
noncomputable def namDs (ds : List NDef) : Bool := List.rec (motive := fun _ => Bool) true (fun d _ ih => cond (namD d) ih false) ds
theorem namDs_get : ∀ {ds : List NDef}, namDs ds = true → ∀ (j : Nat) (d : NDef), ds[j]? = some d → namD d = true
  | [], _, j, d, h => by simp at h
  | x :: ds, h, j, d, hj => by
    have h' : cond (namD x) (namDs ds) false = true := h
    cases hx : namD x with
    | false => rw [hx] at h'; cases h'
    | true =>
      rw [hx, cond_true] at h'
      cases j with
      | zero => cases hj; exact hx
      | succ j => exact namDs_get h' j d (by simpa using hj)
theorem binV_named {op : BinOp} (ho : opC op < 11) {a b v : Value} (h : binV op a b = some v) : named v := by
  unfold binV at h
  split at h
  · rename_i k a k' b
    have hs : ∀ o, aShift op k a b = some o → ∀ v, o = some v → named v := by
      intro o h1 v h2
      unfold aShift at h1
      split at h1
      · cases h1; cases h2
      · split at h1
        · split at h1 <;> first | (cases h1; cases h2; trivial) | cases h1
        · split at h1 <;> first | (cases h1; cases h2; trivial) | cases h1
    have hi : ∀ o, aInt op k a b = some o → ∀ v, o = some v → named v := by
      intro o h1 v h2
      unfold aInt at h1
      cases op <;> simp only at h1 <;> first
        | (cases h1; cases h2; trivial)
        | (exact absurd ho (by decide))
        | (cases h1; done)
        | (cases h1; unfold cond at h2; split at h2 <;> first | (cases h2; done) | (cases h2; trivial))
        | (cases hb : aBits _ k a b with
            | none => rw [hb] at h1; cases h1
            | some u =>
              rw [hb] at h1; cases h1; cases h2
              unfold aBits at hb
              split at hb
              · unfold cond at hb
                split at hb <;> first | (cases hb; done) | (simp only at hb; cases hb; trivial)
              · cases hb)
    split at h
    · split at h
      · rename_i r hr; exact hs _ hr v h
      · cases h
    · split at h
      · rename_i r hr; exact hs _ hr v h
      · cases h
    · unfold cond at h
      split at h
      · split at h
        · rename_i r hr; exact hi _ hr v h
        · cases h
      · cases h
  · rename_i a b
    unfold aStr at h
    cases op <;> simp only at h <;> first | (cases h; done) | (exact absurd ho (by decide)) | (cases h; trivial) | (unfold cond at h; split at h <;> first | (cases h; trivial) | cases h)
  · cases h
theorem defE_named {d : NDef} (h : namD d = true) : named (defE G d) := by
  cases d with
  | ent c a b =>
    simp only [namD] at h
    show named (entE c (gv G a) (gv G b))
    unfold entE
    rw [natBlt, cond_decide] at h ⊢
    by_cases h32 : c < 32
    · rw [if_pos h32]
      split at h
      · rename_i h11
        split
        · rename_i v hv
          refine binV_named (op := opOf c) ?_ hv
          have : ∀ n, n < 11 → opC (opOf n) < 11 := by decide
          exact this c h11
        · trivial
      · have := Nat.le_of_ble_eq_true h; omega
    · rw [if_neg h32]
      unfold cond
      split
      · split
        · split <;> trivial
        · trivial
      · split <;> trivial
  | str l => simp only [defE]; split <;> trivial
  | crc l => simp only [defE]; split <;> trivial
  | idx k x lo l => simp only [defE]; split <;> (try trivial); split <;> trivial
theorem mkVals_named : ∀ {ds : List NDef} {l : List Value}, (∀ v ∈ l, named v) → namDs ds = true → ∀ v ∈ mkVals ds l, named v
  | [], l, h, _ => h
  | d :: ds, l, h, hd => by
    rw [mkVals_cons]
    have hd' : cond (namD d) (namDs ds) false = true := hd
    cases hx : namD d with
    | false => rw [hx] at hd'; cases hd'
    | true =>
      rw [hx, cond_true] at hd'
      refine mkVals_named ?_ hd'
      intro v hv
      rcases List.mem_append.1 hv with h1 | h1
      · exact h v h1
      · rw [List.mem_singleton] at h1; subst h1; exact defE_named hx
theorem symL_named' {l : List Value} (h : ∀ v ∈ l, named v) (i : Nat) : named (symL l i) := by
  unfold symL
  rw [idxR_eq]
  cases hv : l[i]? with
  | none => trivial
  | some v => exact h v (List.mem_of_getElem? hv)
/-- A table is right where its parts are. -/
theorem namesOk_parts {tab : List NInfo} (hn : ∀ i, named (G i)) (h2 : Nat.ble tab.length 4096 = true) (ht : TabOk G tab) : NamesOk G (Names.ofL tab) where
  named := hn
  tab i f hf := by
    have h2 := Nat.le_of_ble_eq_true h2
    have hf' : (T.ofList tab 0 .leaf).get i = some f := hf
    rw [T.get_ofList tab 0 .leaf i (by omega)] at hf'
    split at hf'
    · exact ht i f (by simpa using hf')
    · rw [T.get_leaf] at hf'; cases hf'
  strs p hp := by
    have h2 := Nat.le_of_ble_eq_true h2
    obtain ⟨j, f, k1, k2, k3⟩ := strsOf_mem hp
    have hj : j < tab.length := by
      rcases Nat.lt_or_ge j tab.length with h4 | h4
      · exact h4
      · rw [List.getElem?_eq_none h4] at k1; cases k1
    have := ht j f k1
    refine ⟨by omega, by omega, ?_⟩
    rw [k2, show 4096 + (0 + j) - 4096 = j by omega]
    exact this.str p.2 k3
theorem tabB_part {tab : List NInfo} (h : tabB G tab 0 = true) : TabOk G tab := fun j f hf => by
  have := tabB_ok h j f hf
  simpa using this
theorem symTab_part {ks : List (Option IntKind)} {ds : List NDef} {l : List Value} (hl : ks.length = l.length) (hb : KInv (symL l) ks) (hr : refsAll ds l.length = true) {tab : List NInfo} (h : symTab (ksOf ds ks) ds l.length tab 0 = true) : TabOk (symL (mkVals ds l)) tab := fun j f hf => by
  have := symTab_ok (ksOf_inv hl hb) hr h j f hf
  simpa using this
/-- The check sums of a table are right by their makings. -/
noncomputable def crcsB (ds : List NDef) (nb : Nat) (l : List (List Value × Value)) : Bool :=
  List.rec (motive := fun _ => Bool) true (fun p _ ih => cond (match p.2 with
    | .chan (some r) => cond (Nat.ble (4096 + nb) r && Nat.blt r 8192) (match idxR ds (r - (4096 + nb)) with
      | some (.crc c) => vEqL c p.1
      | _ => false) false
    | _ => false) ih false) l
theorem crcsB_ok {ds : List NDef} {l : List Value} (hr : refsAll ds l.length = true) : ∀ {cs : List (List Value × Value)}, crcsB ds l.length cs = true → CrcOk (symL (mkVals ds l)) cs
  | [], _ => fun p hp => absurd hp (by simp)
  | q :: cs, h => by
    have h' : cond (match q.2 with
      | .chan (some r) => cond (Nat.ble (4096 + l.length) r && Nat.blt r 8192) (match idxR ds (r - (4096 + l.length)) with
        | some (.crc c) => vEqL c q.1
        | _ => false) false
      | _ => false) (crcsB ds l.length cs) false = true := h
    cases hq : (match q.2 with
      | .chan (some r) => cond (Nat.ble (4096 + l.length) r && Nat.blt r 8192) (match idxR ds (r - (4096 + l.length)) with
        | some (.crc c) => vEqL c q.1
        | _ => false) false
      | _ => false) with
    | false => rw [hq] at h'; cases h'
    | true =>
      rw [hq, cond_true] at h'
      intro p hp
      rcases List.mem_cons.1 hp with rfl | hp
      · split at hq
        · rename_i r hv
          rw [natBle, natBlt] at hq
          by_cases hc : 4096 + l.length ≤ r ∧ r < 8192
          · rw [decide_eq_true hc.1, decide_eq_true hc.2] at hq
            simp only [Bool.and_self, cond_true] at hq
            rw [idxR_eq] at hq
            split at hq
            · rename_i c hd
              have e := vEqL_eq _ _ hq
              have hsub : ds[r - (4096 + l.length)]? = some (.crc c) := hd
              have hdef := mkVals_def (l := l) hsub (refsAll_get hr hsub)
              rw [show l.length + (r - (4096 + l.length)) = r - 4096 by omega] at hdef
              refine ⟨?_, fun bs hbs => ?_⟩
              · rw [hv]
                simp only [nameB, Bool.and_eq_true]
                exact ⟨Nat.ble_eq_true_of_le (by omega), by rw [natBlt]; simpa using hc.2⟩
              · rw [hv]
                show symL (mkVals ds l) (r - 4096) = _
                rw [hdef]
                show (match bytesOf (mapN (gv (symL (mkVals ds l))) c) with
                  | some bs => Value.int .u32 (.ofNat (crcR bs))
                  | none => .int .i64 0) = _
                rw [e, mapN_eq, hbs, bytesOf_byteVals]
            · cases hq
          · exfalso
            rcases Classical.not_and_iff_not_or_not.1 hc with h5 | h5 <;> simp [h5] at hq
        · cases hq
      · exact crcsB_ok hr h' p hp
end Vai

namespace Vai
open Go Go.RowKit
variable {P : Program} {G : Sym} {μ : Mu} {N0 : Nat} {σ τ : Mem} {w w' W : World}

/-! A memory at the begin in which some of the program's own variables are told, for reading. -/
noncomputable def gOb (p : Nat × TypeId × List Value) : Nat × Ob := (p.1, rowL .ro p.2.1 1 p.2.2 [])
noncomputable def gMem (l : List (Nat × TypeId × List Value)) : Mem := ⟨8192, layT (l.map gOb) .leaf⟩
def GOk (G : Sym) (W : World) (l : List (Nat × TypeId × List Value)) : Prop := ∀ p ∈ l, p.1 < 4096 ∧ p.2.2.length ≤ 1099511627776 ∧ ∃ c fr, W.heap[p.1]? = some (.cells c p.2.1 fr) ∧ p.2.2.length ≤ c.size ∧
  ∀ (i : Nat) (v : Value), p.2.2[i]? = some v → nameB v = true ∧ c[i]? = some (gv G v)
theorem layT_get : ∀ (l : List (Nat × Ob)) (t : T Ob), (∀ p ∈ l, p.1 < 1099511627776) → ∀ id o, (layT l t).get id = some o → (∃ p ∈ l, p.1 = id ∧ p.2 = o) ∨ t.get id = some o
  | [], t, _, id, o, h => .inr h
  | p :: l, t, hl, id, o, h => by
    rcases layT_get l (t.set p.1 p.2) (fun q hq => hl q (List.mem_cons_of_mem _ hq)) id o h with ⟨q, h1, h2⟩ | h1
    · exact .inl ⟨q, List.mem_cons_of_mem _ h1, h2⟩
    · rw [T.get_set _ _ _ _ (hl p List.mem_cons_self)] at h1
      split at h1
      · rename_i e
        cases h1
        exact .inl ⟨p, List.mem_cons_self, e.symm, rfl⟩
      · exact .inr h1
theorem relG (hG : ∀ i, named (G i)) {l : List (Nat × TypeId × List Value)} (h : GOk G W l) : Rel G (mu0 G) W.heap.size (gMem l) W := by
  have get : ∀ id o, (gMem l).objs.get id = some o → ∃ p ∈ l, p.1 = id ∧ o = .row ⟨.ro, p.2.1, 1, p.2.2.length, T.ofList p.2.2 0 .leaf, []⟩ := by
    intro id o ho
    rcases layT_get (l.map gOb) .leaf (by
      intro q hq
      obtain ⟨p, hp, rfl⟩ := List.mem_map.1 hq
      have := (h p hp).1
      show p.1 < _
      omega) id o ho with ⟨q, h1, h2, h3⟩ | h1
    · obtain ⟨p, hp, rfl⟩ := List.mem_map.1 h1
      exact ⟨p, hp, h2, h3.symm⟩
    · rw [T.get_leaf] at h1; cases h1
  refine ⟨fun g _ => ⟨rfl, rfl⟩, Nat.le_refl _, by show 8192 ≤ 1099511627776; decide, ?_, ?_, Nat.le_refl _⟩
  · intro id o ho
    obtain ⟨p, hp, rfl, rfl⟩ := get id o ho
    obtain ⟨h1, h2, c, fr, h3, h4, h5⟩ := h p hp
    have hg : ∀ i, (T.ofList p.2.2 0 .leaf : T Value).get i = p.2.2[i]? := by
      intro i
      rw [T.get_ofList p.2.2 0 .leaf i (by omega)]
      split
      · rfl
      · rename_i hn
        rw [T.get_leaf, List.getElem?_eq_none (by omega)]
    have hb : (mu0 G p.1).blk = p.1 := by show gpl G p.1 = p.1; unfold gpl; rw [if_pos h1]
    refine ⟨by show p.1 < 8192; omega, ⟨fun i v hv => ?_, fun j hj => absurd hj (by simp), h2⟩, c, fr, ?_, ?_, ?_, fun hk => absurd rfl hk, ?_, fun hk => absurd rfl hk, ?_⟩
    · simp only at hv
      rw [hg] at hv
      exact wf_name (Nat.le_refl 8192) (h5 i v hv).1
    · rw [hb]; exact h3
    · show 0 + p.2.2.length ≤ c.size
      omega
    · intro i hi
      have hi : i < p.2.2.length := hi
      refine ⟨p.2.2[i], ?_, ?_⟩
      · rw [hg, List.getElem?_eq_getElem hi]
      · obtain ⟨h6, h7⟩ := h5 i _ (List.getElem?_eq_getElem hi)
        show c[0 + i]? = _
        rw [Nat.zero_add, h7, conc_name G hG (fun g _ => ⟨rfl, rfl⟩) h6]
    · intro hk; cases hk
    · intro hk; cases hk
  · intro i j o p hij ho hp _ _ _
    obtain ⟨a, _, _, rfl⟩ := get i o ho
    obtain ⟨b, _, _, rfl⟩ := get j p hp
    exact .inl ⟨rfl, .inl rfl⟩
/-- A law that the evaluator says is true, over the variables that are told. -/
theorem law_of_evalG {call : CallF} (hG : ∀ i, named (G i)) (hc : CallOk P G call) {f : FuncId} {args : Array Value} {l : List (Nat × TypeId × List Value)} (hw : wfA 8192 args) (he : saidOf (call f args (gMem l)) = some true) (hg : GOk G W l) :
    Calls P f (concA (mu0 G) args) W fun e w' => e = .returned (.bool true) ∧ Below W.heap.size W w' := by
  obtain ⟨σ, hs⟩ := saidOf_true he
  refine Calls.mono (hc f args (gMem l) _ σ hs (mu0 G) W.heap.size W (relG hG hg) hw) ?_
  rintro en w' ⟨μ', hr, hx, hm⟩
  exact ⟨hm.1, hx.below (relG hG hg)⟩
/-- A begun() that is true, told anywhere. -/
theorem toldTrue {call : CallF} {B : FuncId} (hc : CallOk P G call) (h : saidOf (call B #[] mem0) = some true) : ToldOk P G B [] (.bool true) := by
  intro W
  obtain ⟨σ, hs⟩ := saidOf_true h
  exact val_of_eval hc (args := #[]) trivial rfl hs W

/-- The contract is handed that the variables lie as the program lays them out. -/
theorem returns_shaped {H : Type} {enc : TypeId × Value → H} {a : Assume} {C : Checked} {os : Os} {f : FuncId} {fn : Func} {s : ChangeSpec} {conds : List PathCond} {apart fresh handsOn again : Bool} {X : World → Array Value → Prop}
    (hX : ∀ (w w' : World) (args : Array Value), w.heap = w'.heap → X w args → X w' args)
    (own : ownKnob C.prog.godebug = none) (started : os.Started) (noInit : C.prog.inits.idxOf? f = none) (hfn : C.prog.funcs[f]? = some fn)
    (witness : ∃ (w : World) (tape : Tape) (i : Input), w.os = os ∧ (w.forCall tape i).Shaped C.prog ∧ i.vars = [] ∧ Input.okWide C.prog (w.forCall tape i) .any w.heap.size f i ∧
      ((s.pre enc C.prog fn conds apart (w.forCall tape i).memory i.args ∧ X (w.forCall tape i).memory i.args) ∧ sizedMet enc C.prog fn (OpenSpec.ofChange s) apart (w.forCall tape i).memory i.args) ∧ a.holds C.prog (lone (Frame.enter C.prog f i.args .normal) [] (w.forCall tape i)))
    (contract : ∀ (W : World) (base : Nat) (args : Array Value) (ds gs : List (DataW H)) (before : List MemPlace), W.ShapedOpen C.prog →
      (∀ (j : Nat) t v, fn.params[j]? = some t → args[j]? = some v → Value.okWide C.prog W .any base t v) →
      DataW.Whole enc C.prog fn.params.toList s.vars apart W args.toList ds gs before →
      conds.all (PathCond.test C.prog ⟨fn.params.toList, ds, s.plain.varTypes C.prog, gs⟩) = true →
      (DataW.weightsEach C.prog (fn.params.toList ++ s.plain.varTypes C.prog) (ds ++ gs)).all (· ≤ reachBytes) = true → X W args →
      a.holds C.prog (lone (Frame.enter C.prog f args .normal) [] W) →
      Calls C.prog f args W fun e W' => ∃ v, e = .returned v ∧ s.post enc C.prog fn apart fresh handsOn again W args v W') :
    ReturnsInHanded a C os f .any (fun w args => (s.pre enc C.prog fn conds apart w args ∧ X w args) ∧ sizedMet enc C.prog fn (OpenSpec.ofChange s) apart w args) (s.post enc C.prog fn apart fresh handsOn again) := by
  refine returnsInHanded_of_calls own started noInit witness ?_
  intro w tape i _ hsh _ hok hpre hholds
  obtain ⟨_, _, _, fn', hfn', _, _, _, _, hval⟩ := hok
  obtain rfl : fn' = fn := Option.some.inj (hfn'.symm.trans hfn)
  obtain ⟨⟨⟨ds, gs, before, hw, hc⟩, hx⟩, hz⟩ := hpre
  refine (contract (w.forCall tape i) w.heap.size i.args ds gs before hsh hval (DataW.Whole.of_heap (w' := w.forCall tape i) (by rfl) hw) hc (hz.weights hw) (hX _ _ _ (by rfl) hx) hholds).mono fun e W' ⟨v, he, hp⟩ => ?_
  subst he
  exact ChangeSpec.post_blind hp
/-- A table of whole numbers that is laid, as it lies in memory. -/
theorem row_of_tab {name : String} {k : IntKind} {zs : List Int} {g : Nat} {t : TypeId} {zero : Array Value} (hsh : W.ShapedOpen P) (hT : Lib.TabIs P W name k zs) (hg : P.globalNamed name = some g) (hlt : g < P.globals.size)
    (h0 : ((begin P (fun _ _ => 0) default).world.heap[g]?).bind Obj.row? = some (zero, t)) : W.heap[g]? = some (.cells (zs.map fun z => Value.int k z).toArray t (0, 0)) := by
  obtain ⟨cs, hh, _, _⟩ := hsh.1 g zero t hlt h0
  have hv : W.var? P name = some cs := by unfold World.var?; rw [hg]; simp only [Option.bind_some, hh]
  unfold Lib.TabIs at hT
  rw [hv] at hT
  rw [← Option.some.inj hT]
  exact hh
end Vai
