/- Small numbers in hex and in decimal: by the evaluator over their code, for each of them; the table that one of them reads. -/
import Derived.Test.YtkjjidmchepjcaaDoorProg
import Derived.WalkKit
import Derived.ProofKit
import Derived.Lib.Hide
import Derived.WalkLawsBesides
import Derived.WalkSpells
import Derived.Deep.RegionWith
import Derived.Test.YtkjjidmchepjcaaDoorVG
import Derived.Below
import Derived.Lib.LaidTab
import Derived.KernelRfl
import Derived.Test.YtkjjidmchepjcaaDoorNG
namespace Go.Proofs.YtkjjidmchepjcaaDoor.nm
open Go Go.RowKit Vai
set_option linter.unusedVariables false
set_option linter.unusedSimpArgs false
def dbZ : List Int := [0, 1, 56, 2, 57, 49, 28, 3, 61, 58, 42, 50, 38, 29, 17, 4, 62, 47, 59, 36, 45, 43, 51, 22, 53, 39, 33, 30, 24, 18, 12, 5, 63, 55, 48, 27, 60, 41, 37, 16, 46, 35, 44, 21, 52, 32, 23, 11, 54, 26, 40, 15, 34, 20, 31, 10, 25, 14, 19, 9, 13, 8, 7, 6]
noncomputable def gl : List (Nat × TypeId × List Value) := [(3, 167, dbZ.map fun z => Value.int .u8 z)]
theorem db_g : Tryd.prog.globalNamed "math/bits.deBruijn64tab" = some 3 := by kernel_rfl
theorem db_ty : (Tryd.prog.globals[3]?).map (·.type) = some 167 := by kernel_rfl
theorem db_ce : Tryd.prog.cellsOf 5 = 1 := by kernel_rfl
theorem db_ct : Tryd.prog.cellsOf 167 = 64 := by kernel_rfl
theorem db_lt : 3 < Tryd.prog.globals.size := by rw [Tryd.globals_size]; decide
set_option maxRecDepth 100000 in
theorem db_row : ∃ zero, ((begin Tryd.prog (fun _ _ => 0) default).world.heap[3]?).bind Obj.row? = some (zero, 167) := ⟨(List.replicate 64 (Value.int .u8 0)).toArray, by kernel_rfl⟩
/-- The table lies in its block. -/
def DbAt (W : World) : Prop := W.heap[3]? = some (.cells (dbZ.map fun z => Value.int .u8 z).toArray 167 (0, 0))
theorem db_at {W : World} (hsh : W.ShapedOpen Tryd.prog) (hT : Lib.TabIs Tryd.prog W "math/bits.deBruijn64tab" .u8 dbZ) : DbAt W := by
  obtain ⟨zero, hz⟩ := db_row
  exact row_of_tab hsh hT db_g db_lt hz
theorem DbAt.below {W w : World} (h : DbAt W) (hb : Below W.heap.size W w) : DbAt w := by
  unfold DbAt at h ⊢
  rw [hb.block 3 (Array.getElem?_eq_some_iff.1 h).1]
  exact h
theorem gl_ok (G : Sym) {W : World} (hr : DbAt W) : GOk G W gl := by
  intro p hp
  rw [show gl = [(3, 167, dbZ.map fun z => Value.int .u8 z)] from rfl, List.mem_singleton] at hp
  subst hp
  refine ⟨by decide, by decide, _, _, hr, by simp, fun i v hv => ?_⟩
  have hm := List.mem_of_getElem? hv
  obtain ⟨z, _, hz⟩ := List.mem_map.1 hm
  subst hz
  exact ⟨rfl, by rw [show gv G (Value.int .u8 z) = Value.int .u8 z from rfl, List.getElem?_toArray]; exact hv⟩
/-- What an evaluation says that returns a text. -/
noncomputable def txtOf (r : Option (FR × Mem)) : Option (List UInt8) :=
  match r with
  | some (.ret (.string s), _) => some s.data.toList
  | _ => none
theorem txtOf_some {r : Option (FR × Mem)} {l : List UInt8} (h : txtOf r = some l) : ∃ σ, r = some (.ret (.string (bsl l)), σ) := by
  unfold txtOf at h
  split at h
  · rename_i s σ
    cases h
    exact ⟨σ, by rw [bsl_back]⟩
  · cases h
noncomputable abbrev extF : Extn := extFull Tryd.prog
noncomputable def fmtCall : CallF := evalFn Tryd.prog extF noSumm (drawD3 Tryd.prog extF) 200
theorem fmt_ok (G : Sym) : CallOk Tryd.prog G fmtCall := evalFn_ok extFull_ok trivial noSumm_ok (drawD3_ok extFull_ok trivial) 200
def hexC (v : Nat) : UInt8 := if v < 10 then UInt8.ofNat (48 + v) else UInt8.ofNat (87 + v)
noncomputable def hexB (v : Nat) : Bool := match txtOf (fmtCall 73 #[.int .u64 (Int.ofNat v), .int .i64 16] (gMem gl)) with
  | some [c] => Nat.beq c.toNat (hexC v).toNat
  | _ => false
set_option maxRecDepth 100000 in
theorem hex_all : allB 16 hexB = true := by kernel_rfl
theorem hex_calls (v : Nat) (hv : v < 16) (W : World) (h : DbAt W) : Calls Tryd.prog 73 #[.int .u64 (v : Int), .int .i64 16] W fun e w' => e = .returned (sV [hexC v]) ∧ Below W.heap.size W w' := by
  have hb := allB_spec hex_all v hv
  unfold hexB at hb
  split at hb
  · rename_i c hc
    have hcc : c = hexC v := UInt8.toNat_inj.1 (Nat.eq_of_beq_eq_true hb)
    subst hcc
    obtain ⟨σ, hs⟩ := txtOf_some hc
    refine Calls.mono ((fmt_ok (fun _ => .int .i64 0)) _ _ (gMem gl) _ σ hs (mu0 _) W.heap.size W (relG (G := fun _ => Value.int .i64 0) (fun _ => trivial) (gl_ok _ h)) (by simp [wfA, wfL, wf])) ?_
    rintro en w' ⟨μ', hr, hx, hm⟩
    exact ⟨hm.1, hx.below (relG (G := fun _ => Value.int .i64 0) (fun _ => trivial) (gl_ok _ h))⟩
  · cases hb
/-- A small number in decimal. -/
def decL (n : Nat) : List UInt8 := if n < 10 then [UInt8.ofNat (48 + n)] else if n < 100 then [UInt8.ofNat (48 + n / 10), UInt8.ofNat (48 + n % 10)] else [UInt8.ofNat (48 + n / 100), UInt8.ofNat (48 + n / 10 % 10), UInt8.ofNat (48 + n % 10)]
def eqL : List UInt8 → List UInt8 → Bool
  | [], [] => true
  | a :: l, b :: m => Nat.beq a.toNat b.toNat && eqL l m
  | _, _ => false
theorem eqL_eq : ∀ {a b : List UInt8}, eqL a b = true → a = b
  | [], [], _ => rfl
  | a :: l, b :: m, h => by
    unfold eqL at h
    rw [Bool.and_eq_true] at h
    rw [UInt8.toNat_inj.1 (Nat.eq_of_beq_eq_true h.1), eqL_eq h.2]
  | [], _ :: _, h => by cases h
  | _ :: _, [], h => by cases h
noncomputable def decB (n : Nat) : Bool := match txtOf (fmtCall 78 #[.int .i64 (Int.ofNat n)] mem0) with
  | some l => eqL l (decL n)
  | none => false
set_option maxRecDepth 100000 in
theorem dec_all : allB 256 decB = true := by kernel_rfl
theorem dec_calls (n : Nat) (hn : n < 256) (W : World) : Calls Tryd.prog 78 #[.int .i64 (n : Int)] W fun e w' => e = .returned (sV (decL n)) ∧ Below W.heap.size W w' := by
  have hb := allB_spec dec_all n hn
  unfold decB at hb
  split at hb
  · rename_i l hc
    have hl := eqL_eq hb
    subst hl
    obtain ⟨σ, hs⟩ := txtOf_some hc
    refine Calls.mono ((fmt_ok (fun _ => .int .i64 0)) _ _ mem0 _ σ hs (mu0 _) W.heap.size W (rel0 _ W) (by simp [wfA, wfL, wf])) ?_
    rintro en w' ⟨μ', hr, hx, hm⟩
    exact ⟨hm.1, hx.below (rel0 _ W)⟩
  · cases hb
theorem itoa_dec : ∀ n : Fin 256, Lib.itoa ((n.val : Nat) : Int) = decL n.val := by decide +kernel
end Go.Proofs.YtkjjidmchepjcaaDoor.nm
