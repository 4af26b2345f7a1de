/- The table of powers of ten, as it lies in memory where the row's condition on it holds. -/
import Derived.Test.YtemmgompegkgkaaGreatDoorProg
import Derived.Test.YtemmgompegkgkaaGreatDoorVG
import Derived.KernelRfl
namespace Go.Proofs.YtemmgompegkgkaaGreatDoor.top
open Go Vai
set_option linter.unusedVariables false
set_option linter.unusedSimpArgs false
def powZ : List Int := [1, 10, 100, 1000, 10000, 100000, 1000000, 10000000, 100000000, 1000000000, 10000000000, 100000000000, 1000000000000, 10000000000000, 100000000000000, 1000000000000000, 10000000000000000, 100000000000000000, 1000000000000000000, 10000000000000000000]
noncomputable def gl : List (Nat × TypeId × List Value) := [(1, 459, powZ.map fun z => Value.int .u64 z)]
theorem pow_g : Tryz.prog.globalNamed "internal/strconv.uint64pow10" = some 1 := by kernel_rfl
theorem pow_ty : (Tryz.prog.globals[1]?).map (·.type) = some 459 := by kernel_rfl
theorem pow_ce : Tryz.prog.cellsOf 332 = 1 := by kernel_rfl
theorem pow_ct : Tryz.prog.cellsOf 459 = 20 := by kernel_rfl
theorem pow_lt : 1 < Tryz.prog.globals.size := by rw [Tryz.globals_size]; decide
set_option maxRecDepth 100000 in
theorem pow_row : ∃ zero, ((begin Tryz.prog (fun _ _ => 0) default).world.heap[1]?).bind Obj.row? = some (zero, 459) := ⟨(List.replicate 20 (Value.int .u64 0)).toArray, by kernel_rfl⟩
theorem gl_ok (G : Sym) {W : World} (hsh : W.ShapedOpen Tryz.prog) (hT : Lib.TabIs Tryz.prog W "internal/strconv.uint64pow10" .u64 powZ) : GOk G W gl := by
  obtain ⟨zero, hz⟩ := pow_row
  have hr := row_of_tab hsh hT pow_g pow_lt hz
  intro p hp
  rw [show gl = [(1, 459, powZ.map fun z => Value.int .u64 z)] from rfl, List.mem_singleton] at hp
  subst hp
  refine ⟨by decide, by decide, _, _, hr, by simp, fun i v hv => ?_⟩
  have hm := List.mem_of_getElem? hv
  obtain ⟨z, _, hz⟩ := List.mem_map.1 hm
  subst hz
  exact ⟨rfl, by rw [show gv G (Value.int .u64 z) = Value.int .u64 z from rfl, List.getElem?_toArray]; exact hv⟩
end Go.Proofs.YtemmgompegkgkaaGreatDoor.top
