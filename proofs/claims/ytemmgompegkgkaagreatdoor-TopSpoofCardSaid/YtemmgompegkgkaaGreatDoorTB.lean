/- The begin of the whole-host laws: it is true; and what small() makes of a number. -/
import Derived.Test.YtemmgompegkgkaaGreatDoorProg
import Derived.Test.YtemmgompegkgkaaGreatDoorVE
import Derived.KernelRfl
import Derived.WalkKit
import Derived.ProofKit
namespace Go.Proofs.YtemmgompegkgkaaGreatDoor.top
open Go.ChangeShapes Go.WideShapes Go.ChangeAt Go.RowKit
set_option linter.unusedVariables false
set_option linter.unusedSimpArgs false
/-- What is told of functions without a body. -/
noncomputable abbrev ext : Vai.Extn := Vai.extMost Tryz.prog
noncomputable def plainCall : Vai.CallF := Vai.evalFnR Tryz.prog ext Vai.noSumm (Vai.drawD3 Tryz.prog ext) 600
theorem plain_ok (G : Vai.Sym) : Vai.CallOk Tryz.prog G plainCall := Vai.evalFnR_ok Vai.extMost_ok trivial Vai.noSumm_ok (Vai.drawD3_ok Vai.extMost_ok trivial) 600
set_option maxRecDepth 100000 in
theorem begun_true : Vai.saidOf (plainCall 8 #[] Vai.mem0) = some true := by kernel_rfl
theorem ret_int {k : IntKind} {a b : Int} (h : a = b) : Ending.returned (.int k a) = .returned (.int k b) := by rw [h]
/-- What the law's first step makes of its number. -/
theorem small_calls (k n : Int) (hn : 0 < n) (hn2 : n ≤ 1000000) (W : World) (hk : -9223372036854775808 ≤ k ∧ k ≤ 9223372036854775807) : Calls Tryz.prog 9 #[.int .i64 k, .int .i64 n] W fun e w' => e = .returned (.int .i64 (k.tmod n).natAbs) ∧ w' = W := by
  obtain ⟨hk1, hk2⟩ := hk
  have h1 : ((k.tmod n).natAbs : Int) < n := by
    rw [Int.natAbs_tmod]
    have := Nat.mod_lt k.natAbs (show 0 < n.natAbs by omega)
    omega
  have h5 : k.tmod n < 0 → ((k.tmod n).natAbs : Int) = -(k.tmod n) := fun h => Int.ofNat_natAbs_of_nonpos (by omega)
  have h6 : ¬ k.tmod n < 0 → ((k.tmod n).natAbs : Int) = k.tmod n := fun h => Int.natAbs_of_nonneg (by omega)
  obtain ⟨m, hm⟩ : ∃ m, (k.tmod n).natAbs = m := ⟨_, rfl⟩
  rw [hm] at h1 h5 h6 ⊢
  clear hm
  by_cases hneg : k.tmod n < 0
  · have hz : (n == 0) = false := by simp; omega
    have h2 := h5 hneg
    clear h5 h6
    go_enter Tryz.func9, Tryz.ntmps9
    go_wp2
    go_ret
    exact ⟨by first | exact ret_int h2.symm | rfl, rfl⟩
  · have hz : (n == 0) = false := by simp; omega
    have h2 := h6 hneg
    clear h5 h6
    go_enter Tryz.func9, Tryz.ntmps9
    go_wp2
    go_ret
    exact ⟨by first | exact ret_int h2.symm | rfl, rfl⟩
end Go.Proofs.YtemmgompegkgkaaGreatDoor.top
