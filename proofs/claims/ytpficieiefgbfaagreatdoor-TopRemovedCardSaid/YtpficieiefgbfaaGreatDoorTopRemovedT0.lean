/- The law TopRemoved: names by classes of its inputs, their makings, their tables, and the check of these. -/
import Derived.Test.YtpficieiefgbfaaGreatDoorVG
import Derived.Test.YtpficieiefgbfaaGreatDoorTB
import Derived.KernelRfl
namespace Go.Proofs.YtpficieiefgbfaaGreatDoor.topremoved.d1f
open Go Vai
set_option linter.unusedVariables false
set_option linter.unusedSimpArgs false
noncomputable def ds : List NDef := [.idx .u8 (.chan (some 4097)) 0 [.ofNat 48, .ofNat 49, .ofNat 50, .ofNat 51, .ofNat 52, .ofNat 53, .ofNat 54, .ofNat 55, .ofNat 56, .ofNat 57],
  .str [.chan (some 4098)],
  .str [.int .u8 (.ofNat 49), .int .u8 (.ofNat 48), .int .u8 (.ofNat 46), .int .u8 (.ofNat 48), .int .u8 (.ofNat 46), .int .u8 (.ofNat 48), .int .u8 (.ofNat 46), .chan (some 4098)],
  .str [.int .u8 (.ofNat 49), .int .u8 (.ofNat 48), .int .u8 (.ofNat 46), .int .u8 (.ofNat 48), .int .u8 (.ofNat 46), .int .u8 (.ofNat 48), .int .u8 (.ofNat 46), .chan (some 4098), .int .u8 (.ofNat 32), .int .u8 (.ofNat 111), .int .u8 (.ofNat 116), .int .u8 (.ofNat 104), .int .u8 (.ofNat 101), .int .u8 (.ofNat 114), .int .u8 (.ofNat 10)],
  .str [.int .u8 (.ofNat 49), .int .u8 (.ofNat 48), .int .u8 (.ofNat 46), .int .u8 (.ofNat 48), .int .u8 (.ofNat 46), .int .u8 (.ofNat 48), .int .u8 (.ofNat 46), .chan (some 4098), .int .u8 (.ofNat 32), .int .u8 (.ofNat 111), .int .u8 (.ofNat 116), .int .u8 (.ofNat 104), .int .u8 (.ofNat 101), .int .u8 (.ofNat 114)],
  .ent 34 (.chan (some 4098)) (.int .u8 (.ofNat 0)),
  .str [.int .u8 (.ofNat 48), .int .u8 (.ofNat 46), .int .u8 (.ofNat 48), .int .u8 (.ofNat 46), .chan (some 4098)],
  .str [.int .u8 (.ofNat 48), .int .u8 (.ofNat 46), .chan (some 4098)],
  .ent 1 (.chan (some 4098)) (.int .u8 (.ofNat 48)),
  .ent 39 (.chan (some 4106)) (.int .u8 (.ofNat 0)),
  .str [.int .u8 (.ofNat 10), .int .u8 (.ofNat 0), .int .u8 (.ofNat 0), .chan (some 4106)]]
noncomputable def tabS : List NInfo := [⟨none, none, []⟩,
  ⟨none, none, []⟩,
  ⟨none, none, [⟨34, .chan (some 4098), .int .u8 (.ofNat 0), .chan (some 4103)⟩, ⟨1, .chan (some 4098), .int .u8 (.ofNat 48), .chan (some 4106)⟩]⟩,
  ⟨none, some [.chan (some 4098)], []⟩,
  ⟨none, some [.int .u8 (.ofNat 49), .int .u8 (.ofNat 48), .int .u8 (.ofNat 46), .int .u8 (.ofNat 48), .int .u8 (.ofNat 46), .int .u8 (.ofNat 48), .int .u8 (.ofNat 46), .chan (some 4098)], []⟩,
  ⟨none, some [.int .u8 (.ofNat 49), .int .u8 (.ofNat 48), .int .u8 (.ofNat 46), .int .u8 (.ofNat 48), .int .u8 (.ofNat 46), .int .u8 (.ofNat 48), .int .u8 (.ofNat 46), .chan (some 4098), .int .u8 (.ofNat 32), .int .u8 (.ofNat 111), .int .u8 (.ofNat 116), .int .u8 (.ofNat 104), .int .u8 (.ofNat 101), .int .u8 (.ofNat 114), .int .u8 (.ofNat 10)], []⟩,
  ⟨none, some [.int .u8 (.ofNat 49), .int .u8 (.ofNat 48), .int .u8 (.ofNat 46), .int .u8 (.ofNat 48), .int .u8 (.ofNat 46), .int .u8 (.ofNat 48), .int .u8 (.ofNat 46), .chan (some 4098), .int .u8 (.ofNat 32), .int .u8 (.ofNat 111), .int .u8 (.ofNat 116), .int .u8 (.ofNat 104), .int .u8 (.ofNat 101), .int .u8 (.ofNat 114)], []⟩,
  ⟨none, none, []⟩,
  ⟨none, some [.int .u8 (.ofNat 48), .int .u8 (.ofNat 46), .int .u8 (.ofNat 48), .int .u8 (.ofNat 46), .chan (some 4098)], []⟩,
  ⟨none, some [.int .u8 (.ofNat 48), .int .u8 (.ofNat 46), .chan (some 4098)], []⟩,
  ⟨none, none, [⟨39, .chan (some 4106), .int .u8 (.ofNat 0), .chan (some 4107)⟩]⟩,
  ⟨none, none, []⟩,
  ⟨none, some [.int .u8 (.ofNat 10), .int .u8 (.ofNat 0), .int .u8 (.ofNat 0), .chan (some 4106)], []⟩]
noncomputable def tab0 : List NInfo := [⟨none, none, []⟩,
  ⟨some (.i64, (.ofNat 0), (.ofNat 9)), none, []⟩,
  ⟨some (.u8, (.ofNat 48), (.ofNat 57)), none, []⟩,
  ⟨none, none, []⟩,
  ⟨none, none, []⟩,
  ⟨none, none, []⟩,
  ⟨none, none, []⟩,
  ⟨some (.i32, (.ofNat 48), (.ofNat 57)), none, []⟩,
  ⟨none, none, []⟩,
  ⟨none, none, []⟩,
  ⟨some (.u8, (.ofNat 0), (.ofNat 9)), none, []⟩,
  ⟨some (.u64, (.ofNat 0), (.ofNat 9)), none, [⟨0, .int .u64 (.ofNat 0), .chan (some 4107), .chan (some 4107)⟩, ⟨35, .chan (some 4107), .int .u8 (.ofNat 0), .chan (some 4097)⟩, ⟨36, .chan (some 4107), .int .u8 (.ofNat 0), .chan (some 4106)⟩]⟩,
  ⟨none, none, []⟩]
noncomputable def tab : List NInfo := (unionT tabS tab0)
noncomputable def crcs : List (List Value × Value) := []
noncomputable abbrev base (a0 : Int) (x0 : Nat) : List Value := [.int .i64 a0, .int .i64 (.ofNat x0)]
noncomputable abbrev G (a0 : Int) (x0 : Nat) : Sym := symL (mkVals ds (base a0 x0))
set_option maxRecDepth 100000 in
theorem refs_ok : refsAll ds 2 = true := by kernel_rfl
set_option maxRecDepth 100000 in
theorem nam_ok : namDs ds = true := by kernel_rfl
set_option maxRecDepth 100000 in
theorem len_ok : Nat.ble tab.length 4096 = true := by kernel_rfl
set_option maxRecDepth 100000 in
theorem crcs_ok : crcsB ds 2 crcs = true := by kernel_rfl
set_option maxRecDepth 100000 in
theorem sym_ok : symTab (ksOf ds [none, some .i64]) ds 2 tabS 0 = true := by kernel_rfl
set_option maxRecDepth 100000 in
theorem tab0_all (a0 : Int) : allB 10 (fun i0 => tabB (G a0 (0 + i0)) tab0 0) = true := by kernel_rfl
theorem tab0_ok (a0 : Int) (x0 : Nat) (h0 : 0 ≤ x0 ∧ x0 < 10) : TabOk (G a0 x0) tab0 := by
  have h := (allB_spec (tab0_all a0 ) (x0 - 0) (by omega))
  rw [show 0 + (x0 - 0) = x0 by omega] at h
  exact tabB_part h
theorem kinv (a0 : Int) (x0 : Nat) (h0 : 0 ≤ x0 ∧ x0 < 10) : KInv (symL (base a0 x0)) [none, some .i64] := by
  intro i k hi
  match i, hi with
  | 0, hi => cases hi
  | 1, hi => cases hi; exact ⟨.ofNat x0, rfl, by rw [inK_iff]; show (-9223372036854775808 : Int) ≤ (x0 : Int) ∧ (x0 : Int) ≤ 9223372036854775807; omega⟩
  | n + 2, hi => cases hi
theorem named_ok (a0 : Int) (x0 : Nat) (i : Nat) : named (G a0 x0 i) := symL_named' (mkVals_named (by intro v hv; simp only [base, List.mem_cons, List.not_mem_nil, or_false] at hv; rcases hv with rfl | rfl <;> trivial) nam_ok) i
theorem names_ok (a0 : Int) (x0 : Nat) (h0 : 0 ≤ x0 ∧ x0 < 10) : NamesOk (G a0 x0) (Names.ofL tab) := namesOk_parts (named_ok a0 x0) len_ok (TabOk.union (symTab_part (l := base a0 x0) rfl (kinv a0 x0 h0) refs_ok sym_ok) (tab0_ok a0 x0 h0 ))
theorem crc_ok (a0 : Int) (x0 : Nat) : CrcOk (G a0 x0) crcs := crcsB_ok (l := base a0 x0) refs_ok crcs_ok
theorem gb0 (a0 : Int) (x0 : Nat) : G a0 x0 (4096 - 4096) = .int .i64 a0 := by
  show symL (mkVals ds (base a0 x0)) 0 = _
  rw [symL_low ds (base a0 x0) 0 (by simp)]
  rfl
theorem gb1 (a0 : Int) (x0 : Nat) : G a0 x0 (4097 - 4096) = .int .i64 (.ofNat x0) := by
  show symL (mkVals ds (base a0 x0)) 1 = _
  rw [symL_low ds (base a0 x0) 1 (by simp)]
  rfl
noncomputable def pargs0 : List Value := [.chan (some 4097)]
noncomputable def pres0 : Value := .chan (some 4099)
noncomputable def pargs1 : List Value := [.chan (some 4097)]
noncomputable def pres1 : Value := .chan (some 4099)
end Go.Proofs.YtpficieiefgbfaaGreatDoor.topremoved.d1f
namespace Go.Proofs.YtpficieiefgbfaaGreatDoor.topremoved.d2f
open Go Vai
set_option linter.unusedVariables false
set_option linter.unusedSimpArgs false
noncomputable def ds : List NDef := [.idx .u8 (.chan (some 4097)) 10 [.ofNat 49, .ofNat 49, .ofNat 49, .ofNat 49, .ofNat 49, .ofNat 49, .ofNat 49, .ofNat 49, .ofNat 49, .ofNat 49, .ofNat 50, .ofNat 50, .ofNat 50, .ofNat 50, .ofNat 50, .ofNat 50, .ofNat 50, .ofNat 50, .ofNat 50, .ofNat 50, .ofNat 51, .ofNat 51, .ofNat 51, .ofNat 51, .ofNat 51, .ofNat 51, .ofNat 51, .ofNat 51, .ofNat 51, .ofNat 51, .ofNat 52, .ofNat 52, .ofNat 52, .ofNat 52, .ofNat 52, .ofNat 52, .ofNat 52, .ofNat 52, .ofNat 52, .ofNat 52, .ofNat 53, .ofNat 53, .ofNat 53, .ofNat 53, .ofNat 53, .ofNat 53, .ofNat 53, .ofNat 53, .ofNat 53, .ofNat 53, .ofNat 54, .ofNat 54, .ofNat 54, .ofNat 54, .ofNat 54, .ofNat 54, .ofNat 54, .ofNat 54, .ofNat 54, .ofNat 54, .ofNat 55, .ofNat 55, .ofNat 55, .ofNat 55, .ofNat 55, .ofNat 55, .ofNat 55, .ofNat 55, .ofNat 55, .ofNat 55, .ofNat 56, .ofNat 56, .ofNat 56, .ofNat 56, .ofNat 56, .ofNat 56, .ofNat 56, .ofNat 56, .ofNat 56, .ofNat 56, .ofNat 57, .ofNat 57, .ofNat 57, .ofNat 57, .ofNat 57, .ofNat 57, .ofNat 57, .ofNat 57, .ofNat 57, .ofNat 57],
  .idx .u8 (.chan (some 4097)) 10 [.ofNat 48, .ofNat 49, .ofNat 50, .ofNat 51, .ofNat 52, .ofNat 53, .ofNat 54, .ofNat 55, .ofNat 56, .ofNat 57, .ofNat 48, .ofNat 49, .ofNat 50, .ofNat 51, .ofNat 52, .ofNat 53, .ofNat 54, .ofNat 55, .ofNat 56, .ofNat 57, .ofNat 48, .ofNat 49, .ofNat 50, .ofNat 51, .ofNat 52, .ofNat 53, .ofNat 54, .ofNat 55, .ofNat 56, .ofNat 57, .ofNat 48, .ofNat 49, .ofNat 50, .ofNat 51, .ofNat 52, .ofNat 53, .ofNat 54, .ofNat 55, .ofNat 56, .ofNat 57, .ofNat 48, .ofNat 49, .ofNat 50, .ofNat 51, .ofNat 52, .ofNat 53, .ofNat 54, .ofNat 55, .ofNat 56, .ofNat 57, .ofNat 48, .ofNat 49, .ofNat 50, .ofNat 51, .ofNat 52, .ofNat 53, .ofNat 54, .ofNat 55, .ofNat 56, .ofNat 57, .ofNat 48, .ofNat 49, .ofNat 50, .ofNat 51, .ofNat 52, .ofNat 53, .ofNat 54, .ofNat 55, .ofNat 56, .ofNat 57, .ofNat 48, .ofNat 49, .ofNat 50, .ofNat 51, .ofNat 52, .ofNat 53, .ofNat 54, .ofNat 55, .ofNat 56, .ofNat 57, .ofNat 48, .ofNat 49, .ofNat 50, .ofNat 51, .ofNat 52, .ofNat 53, .ofNat 54, .ofNat 55, .ofNat 56, .ofNat 57],
  .str [.chan (some 4098), .chan (some 4099)],
  .str [.int .u8 (.ofNat 49), .int .u8 (.ofNat 48), .int .u8 (.ofNat 46), .int .u8 (.ofNat 48), .int .u8 (.ofNat 46), .int .u8 (.ofNat 48), .int .u8 (.ofNat 46), .chan (some 4098), .chan (some 4099)],
  .str [.int .u8 (.ofNat 49), .int .u8 (.ofNat 48), .int .u8 (.ofNat 46), .int .u8 (.ofNat 48), .int .u8 (.ofNat 46), .int .u8 (.ofNat 48), .int .u8 (.ofNat 46), .chan (some 4098), .chan (some 4099), .int .u8 (.ofNat 32), .int .u8 (.ofNat 111), .int .u8 (.ofNat 116), .int .u8 (.ofNat 104), .int .u8 (.ofNat 101), .int .u8 (.ofNat 114), .int .u8 (.ofNat 10)],
  .str [.int .u8 (.ofNat 49), .int .u8 (.ofNat 48), .int .u8 (.ofNat 46), .int .u8 (.ofNat 48), .int .u8 (.ofNat 46), .int .u8 (.ofNat 48), .int .u8 (.ofNat 46), .chan (some 4098), .chan (some 4099), .int .u8 (.ofNat 32), .int .u8 (.ofNat 111), .int .u8 (.ofNat 116), .int .u8 (.ofNat 104), .int .u8 (.ofNat 101), .int .u8 (.ofNat 114)],
  .ent 34 (.chan (some 4098)) (.int .u8 (.ofNat 0)),
  .ent 34 (.chan (some 4099)) (.int .u8 (.ofNat 0)),
  .str [.int .u8 (.ofNat 48), .int .u8 (.ofNat 46), .int .u8 (.ofNat 48), .int .u8 (.ofNat 46), .chan (some 4098), .chan (some 4099)],
  .str [.int .u8 (.ofNat 48), .int .u8 (.ofNat 46), .chan (some 4098), .chan (some 4099)],
  .ent 1 (.chan (some 4098)) (.int .u8 (.ofNat 48)),
  .ent 39 (.chan (some 4108)) (.int .u8 (.ofNat 0)),
  .ent 1 (.chan (some 4099)) (.int .u8 (.ofNat 48)),
  .ent 2 (.chan (some 4109)) (.int .u64 (.ofNat 10)),
  .ent 39 (.chan (some 4110)) (.int .u8 (.ofNat 0)),
  .ent 0 (.chan (some 4111)) (.chan (some 4112)),
  .ent 36 (.chan (some 4113)) (.int .u8 (.ofNat 0)),
  .str [.int .u8 (.ofNat 10), .int .u8 (.ofNat 0), .int .u8 (.ofNat 0), .chan (some 4114)]]
noncomputable def tabS : List NInfo := [⟨none, none, []⟩,
  ⟨none, none, []⟩,
  ⟨none, none, [⟨34, .chan (some 4098), .int .u8 (.ofNat 0), .chan (some 4104)⟩, ⟨1, .chan (some 4098), .int .u8 (.ofNat 48), .chan (some 4108)⟩]⟩,
  ⟨none, none, [⟨34, .chan (some 4099), .int .u8 (.ofNat 0), .chan (some 4105)⟩, ⟨1, .chan (some 4099), .int .u8 (.ofNat 48), .chan (some 4110)⟩]⟩,
  ⟨none, some [.chan (some 4098), .chan (some 4099)], []⟩,
  ⟨none, some [.int .u8 (.ofNat 49), .int .u8 (.ofNat 48), .int .u8 (.ofNat 46), .int .u8 (.ofNat 48), .int .u8 (.ofNat 46), .int .u8 (.ofNat 48), .int .u8 (.ofNat 46), .chan (some 4098), .chan (some 4099)], []⟩,
  ⟨none, some [.int .u8 (.ofNat 49), .int .u8 (.ofNat 48), .int .u8 (.ofNat 46), .int .u8 (.ofNat 48), .int .u8 (.ofNat 46), .int .u8 (.ofNat 48), .int .u8 (.ofNat 46), .chan (some 4098), .chan (some 4099), .int .u8 (.ofNat 32), .int .u8 (.ofNat 111), .int .u8 (.ofNat 116), .int .u8 (.ofNat 104), .int .u8 (.ofNat 101), .int .u8 (.ofNat 114), .int .u8 (.ofNat 10)], []⟩,
  ⟨none, some [.int .u8 (.ofNat 49), .int .u8 (.ofNat 48), .int .u8 (.ofNat 46), .int .u8 (.ofNat 48), .int .u8 (.ofNat 46), .int .u8 (.ofNat 48), .int .u8 (.ofNat 46), .chan (some 4098), .chan (some 4099), .int .u8 (.ofNat 32), .int .u8 (.ofNat 111), .int .u8 (.ofNat 116), .int .u8 (.ofNat 104), .int .u8 (.ofNat 101), .int .u8 (.ofNat 114)], []⟩,
  ⟨none, none, []⟩,
  ⟨none, none, []⟩,
  ⟨none, some [.int .u8 (.ofNat 48), .int .u8 (.ofNat 46), .int .u8 (.ofNat 48), .int .u8 (.ofNat 46), .chan (some 4098), .chan (some 4099)], []⟩,
  ⟨none, some [.int .u8 (.ofNat 48), .int .u8 (.ofNat 46), .chan (some 4098), .chan (some 4099)], []⟩,
  ⟨none, none, [⟨39, .chan (some 4108), .int .u8 (.ofNat 0), .chan (some 4109)⟩]⟩,
  ⟨none, none, [⟨2, .chan (some 4109), .int .u64 (.ofNat 10), .chan (some 4111)⟩]⟩,
  ⟨none, none, [⟨39, .chan (some 4110), .int .u8 (.ofNat 0), .chan (some 4112)⟩]⟩,
  ⟨none, none, [⟨0, .chan (some 4111), .chan (some 4112), .chan (some 4113)⟩]⟩,
  ⟨none, none, []⟩,
  ⟨none, none, [⟨36, .chan (some 4113), .int .u8 (.ofNat 0), .chan (some 4114)⟩]⟩,
  ⟨none, none, []⟩,
  ⟨none, some [.int .u8 (.ofNat 10), .int .u8 (.ofNat 0), .int .u8 (.ofNat 0), .chan (some 4114)], []⟩]
noncomputable def tab0 : List NInfo := [⟨none, none, []⟩,
  ⟨some (.i64, (.ofNat 10), (.ofNat 99)), none, []⟩,
  ⟨some (.u8, (.ofNat 49), (.ofNat 57)), none, []⟩,
  ⟨some (.u8, (.ofNat 48), (.ofNat 57)), none, []⟩,
  ⟨none, none, []⟩,
  ⟨none, none, []⟩,
  ⟨none, none, []⟩,
  ⟨none, none, []⟩,
  ⟨some (.i32, (.ofNat 49), (.ofNat 57)), none, []⟩,
  ⟨some (.i32, (.ofNat 48), (.ofNat 57)), none, []⟩,
  ⟨none, none, []⟩,
  ⟨none, none, []⟩,
  ⟨some (.u8, (.ofNat 1), (.ofNat 9)), none, []⟩,
  ⟨some (.u64, (.ofNat 1), (.ofNat 9)), none, [⟨0, .int .u64 (.ofNat 0), .chan (some 4109), .chan (some 4109)⟩]⟩,
  ⟨some (.u8, (.ofNat 0), (.ofNat 9)), none, []⟩,
  ⟨some (.u64, (.ofNat 10), (.ofNat 90)), none, []⟩,
  ⟨some (.u64, (.ofNat 0), (.ofNat 9)), none, []⟩,
  ⟨some (.u64, (.ofNat 10), (.ofNat 99)), none, [⟨13, .chan (some 4113), .chan (some 4111), .bool false⟩, ⟨35, .chan (some 4113), .int .u8 (.ofNat 0), .chan (some 4097)⟩]⟩,
  ⟨some (.u8, (.ofNat 10), (.ofNat 99)), none, []⟩,
  ⟨none, none, []⟩]
noncomputable def tab : List NInfo := (unionT tabS tab0)
noncomputable def crcs : List (List Value × Value) := []
noncomputable abbrev base (a0 : Int) (x0 : Nat) : List Value := [.int .i64 a0, .int .i64 (.ofNat x0)]
noncomputable abbrev G (a0 : Int) (x0 : Nat) : Sym := symL (mkVals ds (base a0 x0))
set_option maxRecDepth 100000 in
theorem refs_ok : refsAll ds 2 = true := by kernel_rfl
set_option maxRecDepth 100000 in
theorem nam_ok : namDs ds = true := by kernel_rfl
set_option maxRecDepth 100000 in
theorem len_ok : Nat.ble tab.length 4096 = true := by kernel_rfl
set_option maxRecDepth 100000 in
theorem crcs_ok : crcsB ds 2 crcs = true := by kernel_rfl
set_option maxRecDepth 100000 in
theorem sym_ok : symTab (ksOf ds [none, some .i64]) ds 2 tabS 0 = true := by kernel_rfl
set_option maxRecDepth 100000 in
theorem tab0_all (a0 : Int) : allB 90 (fun i0 => tabB (G a0 (10 + i0)) tab0 0) = true := by kernel_rfl
theorem tab0_ok (a0 : Int) (x0 : Nat) (h0 : 10 ≤ x0 ∧ x0 < 100) : TabOk (G a0 x0) tab0 := by
  have h := (allB_spec (tab0_all a0 ) (x0 - 10) (by omega))
  rw [show 10 + (x0 - 10) = x0 by omega] at h
  exact tabB_part h
theorem kinv (a0 : Int) (x0 : Nat) (h0 : 10 ≤ x0 ∧ x0 < 100) : KInv (symL (base a0 x0)) [none, some .i64] := by
  intro i k hi
  match i, hi with
  | 0, hi => cases hi
  | 1, hi => cases hi; exact ⟨.ofNat x0, rfl, by rw [inK_iff]; show (-9223372036854775808 : Int) ≤ (x0 : Int) ∧ (x0 : Int) ≤ 9223372036854775807; omega⟩
  | n + 2, hi => cases hi
theorem named_ok (a0 : Int) (x0 : Nat) (i : Nat) : named (G a0 x0 i) := symL_named' (mkVals_named (by intro v hv; simp only [base, List.mem_cons, List.not_mem_nil, or_false] at hv; rcases hv with rfl | rfl <;> trivial) nam_ok) i
theorem names_ok (a0 : Int) (x0 : Nat) (h0 : 10 ≤ x0 ∧ x0 < 100) : NamesOk (G a0 x0) (Names.ofL tab) := namesOk_parts (named_ok a0 x0) len_ok (TabOk.union (symTab_part (l := base a0 x0) rfl (kinv a0 x0 h0) refs_ok sym_ok) (tab0_ok a0 x0 h0 ))
theorem crc_ok (a0 : Int) (x0 : Nat) : CrcOk (G a0 x0) crcs := crcsB_ok (l := base a0 x0) refs_ok crcs_ok
theorem gb0 (a0 : Int) (x0 : Nat) : G a0 x0 (4096 - 4096) = .int .i64 a0 := by
  show symL (mkVals ds (base a0 x0)) 0 = _
  rw [symL_low ds (base a0 x0) 0 (by simp)]
  rfl
theorem gb1 (a0 : Int) (x0 : Nat) : G a0 x0 (4097 - 4096) = .int .i64 (.ofNat x0) := by
  show symL (mkVals ds (base a0 x0)) 1 = _
  rw [symL_low ds (base a0 x0) 1 (by simp)]
  rfl
noncomputable def pargs0 : List Value := [.chan (some 4097)]
noncomputable def pres0 : Value := .chan (some 4100)
noncomputable def pargs1 : List Value := [.chan (some 4097)]
noncomputable def pres1 : Value := .chan (some 4100)
end Go.Proofs.YtpficieiefgbfaaGreatDoor.topremoved.d2f
namespace Go.Proofs.YtpficieiefgbfaaGreatDoor.topremoved.d3f
open Go Vai
set_option linter.unusedVariables false
set_option linter.unusedSimpArgs false
noncomputable def ds : List NDef := [.idx .u8 (.chan (some 4097)) 100 [.ofNat 49, .ofNat 49, .ofNat 49, .ofNat 49, .ofNat 49, .ofNat 49, .ofNat 49, .ofNat 49, .ofNat 49, .ofNat 49, .ofNat 49, .ofNat 49, .ofNat 49, .ofNat 49, .ofNat 49, .ofNat 49, .ofNat 49, .ofNat 49, .ofNat 49, .ofNat 49, .ofNat 49, .ofNat 49, .ofNat 49, .ofNat 49, .ofNat 49, .ofNat 49, .ofNat 49, .ofNat 49, .ofNat 49, .ofNat 49, .ofNat 49, .ofNat 49, .ofNat 49, .ofNat 49, .ofNat 49, .ofNat 49, .ofNat 49, .ofNat 49, .ofNat 49, .ofNat 49, .ofNat 49, .ofNat 49, .ofNat 49, .ofNat 49, .ofNat 49, .ofNat 49, .ofNat 49, .ofNat 49, .ofNat 49, .ofNat 49, .ofNat 49, .ofNat 49, .ofNat 49, .ofNat 49, .ofNat 49, .ofNat 49, .ofNat 49, .ofNat 49, .ofNat 49, .ofNat 49, .ofNat 49, .ofNat 49, .ofNat 49, .ofNat 49, .ofNat 49, .ofNat 49, .ofNat 49, .ofNat 49, .ofNat 49, .ofNat 49, .ofNat 49, .ofNat 49, .ofNat 49, .ofNat 49, .ofNat 49, .ofNat 49, .ofNat 49, .ofNat 49, .ofNat 49, .ofNat 49, .ofNat 49, .ofNat 49, .ofNat 49, .ofNat 49, .ofNat 49, .ofNat 49, .ofNat 49, .ofNat 49, .ofNat 49, .ofNat 49, .ofNat 49, .ofNat 49, .ofNat 49, .ofNat 49, .ofNat 49, .ofNat 49, .ofNat 49, .ofNat 49, .ofNat 49, .ofNat 49, .ofNat 50, .ofNat 50, .ofNat 50, .ofNat 50, .ofNat 50, .ofNat 50, .ofNat 50, .ofNat 50, .ofNat 50, .ofNat 50, .ofNat 50, .ofNat 50, .ofNat 50, .ofNat 50, .ofNat 50, .ofNat 50, .ofNat 50, .ofNat 50, .ofNat 50, .ofNat 50, .ofNat 50, .ofNat 50, .ofNat 50, .ofNat 50, .ofNat 50, .ofNat 50, .ofNat 50, .ofNat 50, .ofNat 50, .ofNat 50, .ofNat 50, .ofNat 50, .ofNat 50, .ofNat 50, .ofNat 50, .ofNat 50, .ofNat 50, .ofNat 50, .ofNat 50, .ofNat 50, .ofNat 50, .ofNat 50, .ofNat 50, .ofNat 50, .ofNat 50, .ofNat 50, .ofNat 50, .ofNat 50, .ofNat 50, .ofNat 50],
  .idx .u8 (.chan (some 4097)) 100 [.ofNat 48, .ofNat 48, .ofNat 48, .ofNat 48, .ofNat 48, .ofNat 48, .ofNat 48, .ofNat 48, .ofNat 48, .ofNat 48, .ofNat 49, .ofNat 49, .ofNat 49, .ofNat 49, .ofNat 49, .ofNat 49, .ofNat 49, .ofNat 49, .ofNat 49, .ofNat 49, .ofNat 50, .ofNat 50, .ofNat 50, .ofNat 50, .ofNat 50, .ofNat 50, .ofNat 50, .ofNat 50, .ofNat 50, .ofNat 50, .ofNat 51, .ofNat 51, .ofNat 51, .ofNat 51, .ofNat 51, .ofNat 51, .ofNat 51, .ofNat 51, .ofNat 51, .ofNat 51, .ofNat 52, .ofNat 52, .ofNat 52, .ofNat 52, .ofNat 52, .ofNat 52, .ofNat 52, .ofNat 52, .ofNat 52, .ofNat 52, .ofNat 53, .ofNat 53, .ofNat 53, .ofNat 53, .ofNat 53, .ofNat 53, .ofNat 53, .ofNat 53, .ofNat 53, .ofNat 53, .ofNat 54, .ofNat 54, .ofNat 54, .ofNat 54, .ofNat 54, .ofNat 54, .ofNat 54, .ofNat 54, .ofNat 54, .ofNat 54, .ofNat 55, .ofNat 55, .ofNat 55, .ofNat 55, .ofNat 55, .ofNat 55, .ofNat 55, .ofNat 55, .ofNat 55, .ofNat 55, .ofNat 56, .ofNat 56, .ofNat 56, .ofNat 56, .ofNat 56, .ofNat 56, .ofNat 56, .ofNat 56, .ofNat 56, .ofNat 56, .ofNat 57, .ofNat 57, .ofNat 57, .ofNat 57, .ofNat 57, .ofNat 57, .ofNat 57, .ofNat 57, .ofNat 57, .ofNat 57, .ofNat 48, .ofNat 48, .ofNat 48, .ofNat 48, .ofNat 48, .ofNat 48, .ofNat 48, .ofNat 48, .ofNat 48, .ofNat 48, .ofNat 49, .ofNat 49, .ofNat 49, .ofNat 49, .ofNat 49, .ofNat 49, .ofNat 49, .ofNat 49, .ofNat 49, .ofNat 49, .ofNat 50, .ofNat 50, .ofNat 50, .ofNat 50, .ofNat 50, .ofNat 50, .ofNat 50, .ofNat 50, .ofNat 50, .ofNat 50, .ofNat 51, .ofNat 51, .ofNat 51, .ofNat 51, .ofNat 51, .ofNat 51, .ofNat 51, .ofNat 51, .ofNat 51, .ofNat 51, .ofNat 52, .ofNat 52, .ofNat 52, .ofNat 52, .ofNat 52, .ofNat 52, .ofNat 52, .ofNat 52, .ofNat 52, .ofNat 52],
  .idx .u8 (.chan (some 4097)) 100 [.ofNat 48, .ofNat 49, .ofNat 50, .ofNat 51, .ofNat 52, .ofNat 53, .ofNat 54, .ofNat 55, .ofNat 56, .ofNat 57, .ofNat 48, .ofNat 49, .ofNat 50, .ofNat 51, .ofNat 52, .ofNat 53, .ofNat 54, .ofNat 55, .ofNat 56, .ofNat 57, .ofNat 48, .ofNat 49, .ofNat 50, .ofNat 51, .ofNat 52, .ofNat 53, .ofNat 54, .ofNat 55, .ofNat 56, .ofNat 57, .ofNat 48, .ofNat 49, .ofNat 50, .ofNat 51, .ofNat 52, .ofNat 53, .ofNat 54, .ofNat 55, .ofNat 56, .ofNat 57, .ofNat 48, .ofNat 49, .ofNat 50, .ofNat 51, .ofNat 52, .ofNat 53, .ofNat 54, .ofNat 55, .ofNat 56, .ofNat 57, .ofNat 48, .ofNat 49, .ofNat 50, .ofNat 51, .ofNat 52, .ofNat 53, .ofNat 54, .ofNat 55, .ofNat 56, .ofNat 57, .ofNat 48, .ofNat 49, .ofNat 50, .ofNat 51, .ofNat 52, .ofNat 53, .ofNat 54, .ofNat 55, .ofNat 56, .ofNat 57, .ofNat 48, .ofNat 49, .ofNat 50, .ofNat 51, .ofNat 52, .ofNat 53, .ofNat 54, .ofNat 55, .ofNat 56, .ofNat 57, .ofNat 48, .ofNat 49, .ofNat 50, .ofNat 51, .ofNat 52, .ofNat 53, .ofNat 54, .ofNat 55, .ofNat 56, .ofNat 57, .ofNat 48, .ofNat 49, .ofNat 50, .ofNat 51, .ofNat 52, .ofNat 53, .ofNat 54, .ofNat 55, .ofNat 56, .ofNat 57, .ofNat 48, .ofNat 49, .ofNat 50, .ofNat 51, .ofNat 52, .ofNat 53, .ofNat 54, .ofNat 55, .ofNat 56, .ofNat 57, .ofNat 48, .ofNat 49, .ofNat 50, .ofNat 51, .ofNat 52, .ofNat 53, .ofNat 54, .ofNat 55, .ofNat 56, .ofNat 57, .ofNat 48, .ofNat 49, .ofNat 50, .ofNat 51, .ofNat 52, .ofNat 53, .ofNat 54, .ofNat 55, .ofNat 56, .ofNat 57, .ofNat 48, .ofNat 49, .ofNat 50, .ofNat 51, .ofNat 52, .ofNat 53, .ofNat 54, .ofNat 55, .ofNat 56, .ofNat 57, .ofNat 48, .ofNat 49, .ofNat 50, .ofNat 51, .ofNat 52, .ofNat 53, .ofNat 54, .ofNat 55, .ofNat 56, .ofNat 57],
  .str [.chan (some 4098), .chan (some 4099), .chan (some 4100)],
  .str [.int .u8 (.ofNat 49), .int .u8 (.ofNat 48), .int .u8 (.ofNat 46), .int .u8 (.ofNat 48), .int .u8 (.ofNat 46), .int .u8 (.ofNat 48), .int .u8 (.ofNat 46), .chan (some 4098), .chan (some 4099), .chan (some 4100)],
  .str [.int .u8 (.ofNat 49), .int .u8 (.ofNat 48), .int .u8 (.ofNat 46), .int .u8 (.ofNat 48), .int .u8 (.ofNat 46), .int .u8 (.ofNat 48), .int .u8 (.ofNat 46), .chan (some 4098), .chan (some 4099), .chan (some 4100), .int .u8 (.ofNat 32), .int .u8 (.ofNat 111), .int .u8 (.ofNat 116), .int .u8 (.ofNat 104), .int .u8 (.ofNat 101), .int .u8 (.ofNat 114), .int .u8 (.ofNat 10)],
  .str [.int .u8 (.ofNat 49), .int .u8 (.ofNat 48), .int .u8 (.ofNat 46), .int .u8 (.ofNat 48), .int .u8 (.ofNat 46), .int .u8 (.ofNat 48), .int .u8 (.ofNat 46), .chan (some 4098), .chan (some 4099), .chan (some 4100), .int .u8 (.ofNat 32), .int .u8 (.ofNat 111), .int .u8 (.ofNat 116), .int .u8 (.ofNat 104), .int .u8 (.ofNat 101), .int .u8 (.ofNat 114)],
  .ent 34 (.chan (some 4098)) (.int .u8 (.ofNat 0)),
  .ent 34 (.chan (some 4099)) (.int .u8 (.ofNat 0)),
  .ent 34 (.chan (some 4100)) (.int .u8 (.ofNat 0)),
  .str [.int .u8 (.ofNat 48), .int .u8 (.ofNat 46), .int .u8 (.ofNat 48), .int .u8 (.ofNat 46), .chan (some 4098), .chan (some 4099), .chan (some 4100)],
  .str [.int .u8 (.ofNat 48), .int .u8 (.ofNat 46), .chan (some 4098), .chan (some 4099), .chan (some 4100)],
  .ent 1 (.chan (some 4098)) (.int .u8 (.ofNat 48)),
  .ent 39 (.chan (some 4110)) (.int .u8 (.ofNat 0)),
  .ent 1 (.chan (some 4099)) (.int .u8 (.ofNat 48)),
  .ent 2 (.chan (some 4111)) (.int .u64 (.ofNat 10)),
  .ent 39 (.chan (some 4112)) (.int .u8 (.ofNat 0)),
  .ent 0 (.chan (some 4113)) (.chan (some 4114)),
  .ent 1 (.chan (some 4100)) (.int .u8 (.ofNat 48)),
  .ent 2 (.chan (some 4115)) (.int .u64 (.ofNat 10)),
  .ent 39 (.chan (some 4116)) (.int .u8 (.ofNat 0)),
  .ent 0 (.chan (some 4117)) (.chan (some 4118)),
  .idx .i64 (.chan (some 4097)) 100 [.ofNat 7, .ofNat 7, .ofNat 7, .ofNat 7, .ofNat 7, .ofNat 7, .ofNat 7, .ofNat 7, .ofNat 7, .ofNat 7, .ofNat 7, .ofNat 7, .ofNat 7, .ofNat 7, .ofNat 7, .ofNat 7, .ofNat 7, .ofNat 7, .ofNat 7, .ofNat 7, .ofNat 7, .ofNat 7, .ofNat 7, .ofNat 7, .ofNat 7, .ofNat 7, .ofNat 7, .ofNat 7, .ofNat 8, .ofNat 8, .ofNat 8, .ofNat 8, .ofNat 8, .ofNat 8, .ofNat 8, .ofNat 8, .ofNat 8, .ofNat 8, .ofNat 8, .ofNat 8, .ofNat 8, .ofNat 8, .ofNat 8, .ofNat 8, .ofNat 8, .ofNat 8, .ofNat 8, .ofNat 8, .ofNat 8, .ofNat 8, .ofNat 8, .ofNat 8, .ofNat 8, .ofNat 8, .ofNat 8, .ofNat 8, .ofNat 8, .ofNat 8, .ofNat 8, .ofNat 8, .ofNat 8, .ofNat 8, .ofNat 8, .ofNat 8, .ofNat 8, .ofNat 8, .ofNat 8, .ofNat 8, .ofNat 8, .ofNat 8, .ofNat 8, .ofNat 8, .ofNat 8, .ofNat 8, .ofNat 8, .ofNat 8, .ofNat 8, .ofNat 8, .ofNat 8, .ofNat 8, .ofNat 8, .ofNat 8, .ofNat 8, .ofNat 8, .ofNat 8, .ofNat 8, .ofNat 8, .ofNat 8, .ofNat 8, .ofNat 8, .ofNat 8, .ofNat 8, .ofNat 8, .ofNat 8, .ofNat 8, .ofNat 8, .ofNat 8, .ofNat 8, .ofNat 8, .ofNat 8, .ofNat 8, .ofNat 8, .ofNat 8, .ofNat 8, .ofNat 8, .ofNat 8, .ofNat 8, .ofNat 8, .ofNat 8, .ofNat 8, .ofNat 8, .ofNat 8, .ofNat 8, .ofNat 8, .ofNat 8, .ofNat 8, .ofNat 8, .ofNat 8, .ofNat 8, .ofNat 8, .ofNat 8, .ofNat 8, .ofNat 8, .ofNat 8, .ofNat 8, .ofNat 8, .ofNat 8, .ofNat 8, .ofNat 8, .ofNat 8, .ofNat 8, .ofNat 8, .ofNat 8, .ofNat 8, .ofNat 8, .ofNat 8, .ofNat 8, .ofNat 8, .ofNat 8, .ofNat 8, .ofNat 8, .ofNat 8, .ofNat 8, .ofNat 8, .ofNat 8, .ofNat 8, .ofNat 8, .ofNat 8, .ofNat 8, .ofNat 8],
  .ent 2 (.chan (some 4120)) (.int .i64 (.ofNat 78913)),
  .ent 38 (.chan (some 4119)) (.int .u8 (.ofNat 0)),
  .ent 4 (.chan (some 4122)) (.int .u32 (.ofNat 100)),
  .ent 2 (.chan (some 4123)) (.int .u32 (.ofNat 2)),
  .ent 3 (.chan (some 4122)) (.int .u32 (.ofNat 100)),
  .ent 0 (.chan (some 4124)) (.int .u32 (.ofNat 1)),
  .ent 0 (.int .u32 (.ofNat 48)) (.chan (some 4125)),
  .ent 36 (.chan (some 4119)) (.int .u8 (.ofNat 0)),
  .str [.int .u8 (.ofNat 10), .int .u8 (.ofNat 0), .int .u8 (.ofNat 0), .chan (some 4128)]]
noncomputable def tabS : List NInfo := [⟨none, none, []⟩,
  ⟨none, none, []⟩,
  ⟨none, none, [⟨34, .chan (some 4098), .int .u8 (.ofNat 0), .chan (some 4105)⟩, ⟨1, .chan (some 4098), .int .u8 (.ofNat 48), .chan (some 4110)⟩]⟩,
  ⟨none, none, [⟨34, .chan (some 4099), .int .u8 (.ofNat 0), .chan (some 4106)⟩, ⟨1, .chan (some 4099), .int .u8 (.ofNat 48), .chan (some 4112)⟩]⟩,
  ⟨none, none, [⟨34, .chan (some 4100), .int .u8 (.ofNat 0), .chan (some 4107)⟩, ⟨1, .chan (some 4100), .int .u8 (.ofNat 48), .chan (some 4116)⟩]⟩,
  ⟨none, some [.chan (some 4098), .chan (some 4099), .chan (some 4100)], []⟩,
  ⟨none, some [.int .u8 (.ofNat 49), .int .u8 (.ofNat 48), .int .u8 (.ofNat 46), .int .u8 (.ofNat 48), .int .u8 (.ofNat 46), .int .u8 (.ofNat 48), .int .u8 (.ofNat 46), .chan (some 4098), .chan (some 4099), .chan (some 4100)], []⟩,
  ⟨none, some [.int .u8 (.ofNat 49), .int .u8 (.ofNat 48), .int .u8 (.ofNat 46), .int .u8 (.ofNat 48), .int .u8 (.ofNat 46), .int .u8 (.ofNat 48), .int .u8 (.ofNat 46), .chan (some 4098), .chan (some 4099), .chan (some 4100), .int .u8 (.ofNat 32), .int .u8 (.ofNat 111), .int .u8 (.ofNat 116), .int .u8 (.ofNat 104), .int .u8 (.ofNat 101), .int .u8 (.ofNat 114), .int .u8 (.ofNat 10)], []⟩,
  ⟨none, some [.int .u8 (.ofNat 49), .int .u8 (.ofNat 48), .int .u8 (.ofNat 46), .int .u8 (.ofNat 48), .int .u8 (.ofNat 46), .int .u8 (.ofNat 48), .int .u8 (.ofNat 46), .chan (some 4098), .chan (some 4099), .chan (some 4100), .int .u8 (.ofNat 32), .int .u8 (.ofNat 111), .int .u8 (.ofNat 116), .int .u8 (.ofNat 104), .int .u8 (.ofNat 101), .int .u8 (.ofNat 114)], []⟩,
  ⟨none, none, []⟩,
  ⟨none, none, []⟩,
  ⟨none, none, []⟩,
  ⟨none, some [.int .u8 (.ofNat 48), .int .u8 (.ofNat 46), .int .u8 (.ofNat 48), .int .u8 (.ofNat 46), .chan (some 4098), .chan (some 4099), .chan (some 4100)], []⟩,
  ⟨none, some [.int .u8 (.ofNat 48), .int .u8 (.ofNat 46), .chan (some 4098), .chan (some 4099), .chan (some 4100)], []⟩,
  ⟨none, none, [⟨39, .chan (some 4110), .int .u8 (.ofNat 0), .chan (some 4111)⟩]⟩,
  ⟨none, none, [⟨2, .chan (some 4111), .int .u64 (.ofNat 10), .chan (some 4113)⟩]⟩,
  ⟨none, none, [⟨39, .chan (some 4112), .int .u8 (.ofNat 0), .chan (some 4114)⟩]⟩,
  ⟨none, none, [⟨0, .chan (some 4113), .chan (some 4114), .chan (some 4115)⟩]⟩,
  ⟨none, none, []⟩,
  ⟨none, none, [⟨2, .chan (some 4115), .int .u64 (.ofNat 10), .chan (some 4117)⟩]⟩,
  ⟨none, none, [⟨39, .chan (some 4116), .int .u8 (.ofNat 0), .chan (some 4118)⟩]⟩,
  ⟨none, none, [⟨0, .chan (some 4117), .chan (some 4118), .chan (some 4119)⟩]⟩,
  ⟨none, none, []⟩,
  ⟨none, none, [⟨38, .chan (some 4119), .int .u8 (.ofNat 0), .chan (some 4122)⟩, ⟨36, .chan (some 4119), .int .u8 (.ofNat 0), .chan (some 4128)⟩]⟩,
  ⟨none, none, [⟨2, .chan (some 4120), .int .i64 (.ofNat 78913), .chan (some 4121)⟩]⟩,
  ⟨none, none, []⟩,
  ⟨none, none, [⟨4, .chan (some 4122), .int .u32 (.ofNat 100), .chan (some 4123)⟩, ⟨3, .chan (some 4122), .int .u32 (.ofNat 100), .chan (some 4125)⟩]⟩,
  ⟨none, none, [⟨2, .chan (some 4123), .int .u32 (.ofNat 2), .chan (some 4124)⟩]⟩,
  ⟨none, none, [⟨0, .chan (some 4124), .int .u32 (.ofNat 1), .chan (some 4126)⟩]⟩,
  ⟨none, none, [⟨0, .int .u32 (.ofNat 48), .chan (some 4125), .chan (some 4127)⟩]⟩,
  ⟨none, none, []⟩,
  ⟨none, none, []⟩,
  ⟨none, none, []⟩,
  ⟨none, some [.int .u8 (.ofNat 10), .int .u8 (.ofNat 0), .int .u8 (.ofNat 0), .chan (some 4128)], []⟩]
noncomputable def tab0 : List NInfo := [⟨none, none, []⟩,
  ⟨some (.i64, (.ofNat 100), (.ofNat 249)), none, []⟩,
  ⟨some (.u8, (.ofNat 49), (.ofNat 50)), none, []⟩,
  ⟨some (.u8, (.ofNat 48), (.ofNat 57)), none, []⟩,
  ⟨some (.u8, (.ofNat 48), (.ofNat 57)), none, []⟩,
  ⟨none, none, []⟩,
  ⟨none, none, []⟩,
  ⟨none, none, []⟩,
  ⟨none, none, []⟩,
  ⟨some (.i32, (.ofNat 49), (.ofNat 50)), none, []⟩,
  ⟨some (.i32, (.ofNat 48), (.ofNat 57)), none, []⟩,
  ⟨some (.i32, (.ofNat 48), (.ofNat 57)), none, []⟩,
  ⟨none, none, []⟩,
  ⟨none, none, []⟩,
  ⟨some (.u8, (.ofNat 1), (.ofNat 2)), none, []⟩,
  ⟨some (.u64, (.ofNat 1), (.ofNat 2)), none, [⟨0, .int .u64 (.ofNat 0), .chan (some 4111), .chan (some 4111)⟩]⟩,
  ⟨some (.u8, (.ofNat 0), (.ofNat 9)), none, []⟩,
  ⟨some (.u64, (.ofNat 10), (.ofNat 20)), none, []⟩,
  ⟨some (.u64, (.ofNat 0), (.ofNat 9)), none, []⟩,
  ⟨some (.u64, (.ofNat 10), (.ofNat 24)), none, [⟨13, .chan (some 4115), .chan (some 4113), .bool false⟩]⟩,
  ⟨some (.u8, (.ofNat 0), (.ofNat 9)), none, []⟩,
  ⟨some (.u64, (.ofNat 100), (.ofNat 240)), none, []⟩,
  ⟨some (.u64, (.ofNat 0), (.ofNat 9)), none, []⟩,
  ⟨some (.u64, (.ofNat 100), (.ofNat 249)), none, [⟨13, .chan (some 4119), .chan (some 4117), .bool false⟩]⟩,
  ⟨some (.i64, (.ofNat 7), (.ofNat 8)), none, []⟩,
  ⟨some (.i64, (.ofNat 552391), (.ofNat 631304)), none, [⟨9, .chan (some 4121), .int .u64 (.ofNat 18), .int .i64 (.ofNat 2)⟩]⟩,
  ⟨some (.u32, (.ofNat 100), (.ofNat 249)), none, []⟩,
  ⟨some (.u32, (.ofNat 0), (.ofNat 99)), none, []⟩,
  ⟨some (.u32, (.ofNat 0), (.ofNat 198)), none, [⟨70, .chan (some 4124), .string ⟨⟨[48, 48, 48, 49, 48, 50, 48, 51, 48, 52, 48, 53, 48, 54, 48, 55, 48, 56, 48, 57, 49, 48, 49, 49, 49, 50, 49, 51, 49, 52, 49, 53, 49, 54, 49, 55, 49, 56, 49, 57, 50, 48, 50, 49, 50, 50, 50, 51, 50, 52, 50, 53, 50, 54, 50, 55, 50, 56, 50, 57, 51, 48, 51, 49, 51, 50, 51, 51, 51, 52, 51, 53, 51, 54, 51, 55, 51, 56, 51, 57, 52, 48, 52, 49, 52, 50, 52, 51, 52, 52, 52, 53, 52, 54, 52, 55, 52, 56, 52, 57, 53, 48, 53, 49, 53, 50, 53, 51, 53, 52, 53, 53, 53, 54, 53, 55, 53, 56, 53, 57, 54, 48, 54, 49, 54, 50, 54, 51, 54, 52, 54, 53, 54, 54, 54, 55, 54, 56, 54, 57, 55, 48, 55, 49, 55, 50, 55, 51, 55, 52, 55, 53, 55, 54, 55, 55, 55, 56, 55, 57, 56, 48, 56, 49, 56, 50, 56, 51, 56, 52, 56, 53, 56, 54, 56, 55, 56, 56, 56, 57, 57, 48, 57, 49, 57, 50, 57, 51, 57, 52, 57, 53, 57, 54, 57, 55, 57, 56, 57, 57]⟩⟩, .chan (some 4099)⟩]⟩,
  ⟨some (.u32, (.ofNat 1), (.ofNat 2)), none, []⟩,
  ⟨some (.u32, (.ofNat 1), (.ofNat 199)), none, [⟨70, .chan (some 4126), .string ⟨⟨[48, 48, 48, 49, 48, 50, 48, 51, 48, 52, 48, 53, 48, 54, 48, 55, 48, 56, 48, 57, 49, 48, 49, 49, 49, 50, 49, 51, 49, 52, 49, 53, 49, 54, 49, 55, 49, 56, 49, 57, 50, 48, 50, 49, 50, 50, 50, 51, 50, 52, 50, 53, 50, 54, 50, 55, 50, 56, 50, 57, 51, 48, 51, 49, 51, 50, 51, 51, 51, 52, 51, 53, 51, 54, 51, 55, 51, 56, 51, 57, 52, 48, 52, 49, 52, 50, 52, 51, 52, 52, 52, 53, 52, 54, 52, 55, 52, 56, 52, 57, 53, 48, 53, 49, 53, 50, 53, 51, 53, 52, 53, 53, 53, 54, 53, 55, 53, 56, 53, 57, 54, 48, 54, 49, 54, 50, 54, 51, 54, 52, 54, 53, 54, 54, 54, 55, 54, 56, 54, 57, 55, 48, 55, 49, 55, 50, 55, 51, 55, 52, 55, 53, 55, 54, 55, 55, 55, 56, 55, 57, 56, 48, 56, 49, 56, 50, 56, 51, 56, 52, 56, 53, 56, 54, 56, 55, 56, 56, 56, 57, 57, 48, 57, 49, 57, 50, 57, 51, 57, 52, 57, 53, 57, 54, 57, 55, 57, 56, 57, 57]⟩⟩, .chan (some 4100)⟩]⟩,
  ⟨some (.u32, (.ofNat 49), (.ofNat 50)), none, [⟨36, .chan (some 4127), .int .u8 (.ofNat 0), .chan (some 4098)⟩]⟩,
  ⟨some (.u8, (.ofNat 100), (.ofNat 249)), none, []⟩,
  ⟨none, none, []⟩]
noncomputable def tab : List NInfo := (unionT tabS tab0)
noncomputable def crcs : List (List Value × Value) := []
noncomputable abbrev base (a0 : Int) (x0 : Nat) : List Value := [.int .i64 a0, .int .i64 (.ofNat x0)]
noncomputable abbrev G (a0 : Int) (x0 : Nat) : Sym := symL (mkVals ds (base a0 x0))
set_option maxRecDepth 100000 in
theorem refs_ok : refsAll ds 2 = true := by kernel_rfl
set_option maxRecDepth 100000 in
theorem nam_ok : namDs ds = true := by kernel_rfl
set_option maxRecDepth 100000 in
theorem len_ok : Nat.ble tab.length 4096 = true := by kernel_rfl
set_option maxRecDepth 100000 in
theorem crcs_ok : crcsB ds 2 crcs = true := by kernel_rfl
set_option maxRecDepth 100000 in
theorem sym_ok : symTab (ksOf ds [none, some .i64]) ds 2 tabS 0 = true := by kernel_rfl
set_option maxRecDepth 100000 in
theorem tab0_all (a0 : Int) : allB 150 (fun i0 => tabB (G a0 (100 + i0)) tab0 0) = true := by kernel_rfl
theorem tab0_ok (a0 : Int) (x0 : Nat) (h0 : 100 ≤ x0 ∧ x0 < 250) : TabOk (G a0 x0) tab0 := by
  have h := (allB_spec (tab0_all a0 ) (x0 - 100) (by omega))
  rw [show 100 + (x0 - 100) = x0 by omega] at h
  exact tabB_part h
theorem kinv (a0 : Int) (x0 : Nat) (h0 : 100 ≤ x0 ∧ x0 < 250) : KInv (symL (base a0 x0)) [none, some .i64] := by
  intro i k hi
  match i, hi with
  | 0, hi => cases hi
  | 1, hi => cases hi; exact ⟨.ofNat x0, rfl, by rw [inK_iff]; show (-9223372036854775808 : Int) ≤ (x0 : Int) ∧ (x0 : Int) ≤ 9223372036854775807; omega⟩
  | n + 2, hi => cases hi
theorem named_ok (a0 : Int) (x0 : Nat) (i : Nat) : named (G a0 x0 i) := symL_named' (mkVals_named (by intro v hv; simp only [base, List.mem_cons, List.not_mem_nil, or_false] at hv; rcases hv with rfl | rfl <;> trivial) nam_ok) i
theorem names_ok (a0 : Int) (x0 : Nat) (h0 : 100 ≤ x0 ∧ x0 < 250) : NamesOk (G a0 x0) (Names.ofL tab) := namesOk_parts (named_ok a0 x0) len_ok (TabOk.union (symTab_part (l := base a0 x0) rfl (kinv a0 x0 h0) refs_ok sym_ok) (tab0_ok a0 x0 h0 ))
theorem crc_ok (a0 : Int) (x0 : Nat) : CrcOk (G a0 x0) crcs := crcsB_ok (l := base a0 x0) refs_ok crcs_ok
theorem gb0 (a0 : Int) (x0 : Nat) : G a0 x0 (4096 - 4096) = .int .i64 a0 := by
  show symL (mkVals ds (base a0 x0)) 0 = _
  rw [symL_low ds (base a0 x0) 0 (by simp)]
  rfl
theorem gb1 (a0 : Int) (x0 : Nat) : G a0 x0 (4097 - 4096) = .int .i64 (.ofNat x0) := by
  show symL (mkVals ds (base a0 x0)) 1 = _
  rw [symL_low ds (base a0 x0) 1 (by simp)]
  rfl
noncomputable def pargs0 : List Value := [.chan (some 4097)]
noncomputable def pres0 : Value := .chan (some 4101)
noncomputable def pargs1 : List Value := [.chan (some 4119)]
noncomputable def pres1 : Value := .chan (some 4120)
end Go.Proofs.YtpficieiefgbfaaGreatDoor.topremoved.d3f
namespace Go.Proofs.YtpficieiefgbfaaGreatDoor.topremoved.d1t
open Go Vai
set_option linter.unusedVariables false
set_option linter.unusedSimpArgs false
noncomputable def ds : List NDef := [.idx .u8 (.chan (some 4097)) 0 [.ofNat 48, .ofNat 49, .ofNat 50, .ofNat 51, .ofNat 52, .ofNat 53, .ofNat 54, .ofNat 55, .ofNat 56, .ofNat 57],
  .str [.chan (some 4098)],
  .str [.int .u8 (.ofNat 49), .int .u8 (.ofNat 48), .int .u8 (.ofNat 46), .int .u8 (.ofNat 48), .int .u8 (.ofNat 46), .int .u8 (.ofNat 48), .int .u8 (.ofNat 46), .chan (some 4098)],
  .str [.int .u8 (.ofNat 49), .int .u8 (.ofNat 48), .int .u8 (.ofNat 46), .int .u8 (.ofNat 48), .int .u8 (.ofNat 46), .int .u8 (.ofNat 48), .int .u8 (.ofNat 46), .chan (some 4098), .int .u8 (.ofNat 32), .int .u8 (.ofNat 111), .int .u8 (.ofNat 116), .int .u8 (.ofNat 104), .int .u8 (.ofNat 101), .int .u8 (.ofNat 114), .int .u8 (.ofNat 10)],
  .str [.int .u8 (.ofNat 49), .int .u8 (.ofNat 48), .int .u8 (.ofNat 46), .int .u8 (.ofNat 48), .int .u8 (.ofNat 46), .int .u8 (.ofNat 48), .int .u8 (.ofNat 46), .chan (some 4098), .int .u8 (.ofNat 32), .int .u8 (.ofNat 104), .int .u8 (.ofNat 10)],
  .str [.int .u8 (.ofNat 49), .int .u8 (.ofNat 48), .int .u8 (.ofNat 46), .int .u8 (.ofNat 48), .int .u8 (.ofNat 46), .int .u8 (.ofNat 48), .int .u8 (.ofNat 46), .chan (some 4098), .int .u8 (.ofNat 32), .int .u8 (.ofNat 104)],
  .ent 34 (.chan (some 4098)) (.int .u8 (.ofNat 0)),
  .str [.int .u8 (.ofNat 48), .int .u8 (.ofNat 46), .int .u8 (.ofNat 48), .int .u8 (.ofNat 46), .chan (some 4098)],
  .str [.int .u8 (.ofNat 48), .int .u8 (.ofNat 46), .chan (some 4098)],
  .ent 1 (.chan (some 4098)) (.int .u8 (.ofNat 48)),
  .ent 39 (.chan (some 4107)) (.int .u8 (.ofNat 0)),
  .str [.int .u8 (.ofNat 10), .int .u8 (.ofNat 0), .int .u8 (.ofNat 0), .chan (some 4107)],
  .str [.int .u8 (.ofNat 0), .int .u8 (.ofNat 0), .int .u8 (.ofNat 0), .int .u8 (.ofNat 0), .int .u8 (.ofNat 0), .int .u8 (.ofNat 0), .int .u8 (.ofNat 0), .int .u8 (.ofNat 0), .int .u8 (.ofNat 0), .int .u8 (.ofNat 0), .int .u8 (.ofNat 255), .int .u8 (.ofNat 255), .int .u8 (.ofNat 10), .int .u8 (.ofNat 0), .int .u8 (.ofNat 0), .chan (some 4107)],
  .crc [.int .u8 (.ofNat 1), .int .u8 (.ofNat 3), .int .u8 (.ofNat 0), .int .u8 (.ofNat 49), .int .u8 (.ofNat 47), .int .u8 (.ofNat 104), .int .u8 (.ofNat 0), .int .u8 (.ofNat 0), .int .u8 (.ofNat 0), .int .u8 (.ofNat 0), .int .u8 (.ofNat 0), .int .u8 (.ofNat 0), .int .u8 (.ofNat 0), .int .u8 (.ofNat 0), .int .u8 (.ofNat 0), .int .u8 (.ofNat 0), .int .u8 (.ofNat 0), .int .u8 (.ofNat 0), .int .u8 (.ofNat 0), .int .u8 (.ofNat 0), .int .u8 (.ofNat 0), .int .u8 (.ofNat 0), .int .u8 (.ofNat 88), .int .u8 (.ofNat 2), .int .u8 (.ofNat 0), .int .u8 (.ofNat 0), .int .u8 (.ofNat 0), .int .u8 (.ofNat 0), .int .u8 (.ofNat 0), .int .u8 (.ofNat 0), .int .u8 (.ofNat 88), .int .u8 (.ofNat 2), .int .u8 (.ofNat 0), .int .u8 (.ofNat 0), .int .u8 (.ofNat 0), .int .u8 (.ofNat 0), .int .u8 (.ofNat 0), .int .u8 (.ofNat 0), .int .u8 (.ofNat 0), .int .u8 (.ofNat 1), .int .u8 (.ofNat 4), .int .u8 (.ofNat 0), .int .u8 (.ofNat 10), .int .u8 (.ofNat 0), .int .u8 (.ofNat 0), .chan (some 4107), .int .u8 (.ofNat 1), .int .u8 (.ofNat 10), .int .u8 (.ofNat 0), .int .u8 (.ofNat 47), .int .u8 (.ofNat 101), .int .u8 (.ofNat 116), .int .u8 (.ofNat 99), .int .u8 (.ofNat 47), .int .u8 (.ofNat 104), .int .u8 (.ofNat 111), .int .u8 (.ofNat 115), .int .u8 (.ofNat 116), .int .u8 (.ofNat 115), .int .u8 (.ofNat 1), .int .u8 (.ofNat 0), .int .u8 (.ofNat 0), .int .u8 (.ofNat 0), .int .u8 (.ofNat 0), .int .u8 (.ofNat 0), .int .u8 (.ofNat 0), .int .u8 (.ofNat 0)],
  .ent 39 (.chan (some 4111)) (.int .u8 (.ofNat 0)),
  .ent 9 (.chan (some 4112)) (.int .i64 (.ofNat 0)),
  .ent 36 (.chan (some 4113)) (.int .u8 (.ofNat 0)),
  .ent 9 (.chan (some 4112)) (.int .i64 (.ofNat 8)),
  .ent 36 (.chan (some 4115)) (.int .u8 (.ofNat 0)),
  .ent 9 (.chan (some 4112)) (.int .i64 (.ofNat 16)),
  .ent 36 (.chan (some 4117)) (.int .u8 (.ofNat 0)),
  .ent 9 (.chan (some 4112)) (.int .i64 (.ofNat 24)),
  .ent 36 (.chan (some 4119)) (.int .u8 (.ofNat 0))]
noncomputable def tabS : List NInfo := [⟨none, none, []⟩,
  ⟨none, none, []⟩,
  ⟨none, none, [⟨34, .chan (some 4098), .int .u8 (.ofNat 0), .chan (some 4104)⟩, ⟨1, .chan (some 4098), .int .u8 (.ofNat 48), .chan (some 4107)⟩]⟩,
  ⟨none, some [.chan (some 4098)], []⟩,
  ⟨none, some [.int .u8 (.ofNat 49), .int .u8 (.ofNat 48), .int .u8 (.ofNat 46), .int .u8 (.ofNat 48), .int .u8 (.ofNat 46), .int .u8 (.ofNat 48), .int .u8 (.ofNat 46), .chan (some 4098)], []⟩,
  ⟨none, some [.int .u8 (.ofNat 49), .int .u8 (.ofNat 48), .int .u8 (.ofNat 46), .int .u8 (.ofNat 48), .int .u8 (.ofNat 46), .int .u8 (.ofNat 48), .int .u8 (.ofNat 46), .chan (some 4098), .int .u8 (.ofNat 32), .int .u8 (.ofNat 111), .int .u8 (.ofNat 116), .int .u8 (.ofNat 104), .int .u8 (.ofNat 101), .int .u8 (.ofNat 114), .int .u8 (.ofNat 10)], []⟩,
  ⟨none, some [.int .u8 (.ofNat 49), .int .u8 (.ofNat 48), .int .u8 (.ofNat 46), .int .u8 (.ofNat 48), .int .u8 (.ofNat 46), .int .u8 (.ofNat 48), .int .u8 (.ofNat 46), .chan (some 4098), .int .u8 (.ofNat 32), .int .u8 (.ofNat 104), .int .u8 (.ofNat 10)], []⟩,
  ⟨none, some [.int .u8 (.ofNat 49), .int .u8 (.ofNat 48), .int .u8 (.ofNat 46), .int .u8 (.ofNat 48), .int .u8 (.ofNat 46), .int .u8 (.ofNat 48), .int .u8 (.ofNat 46), .chan (some 4098), .int .u8 (.ofNat 32), .int .u8 (.ofNat 104)], []⟩,
  ⟨none, none, []⟩,
  ⟨none, some [.int .u8 (.ofNat 48), .int .u8 (.ofNat 46), .int .u8 (.ofNat 48), .int .u8 (.ofNat 46), .chan (some 4098)], []⟩,
  ⟨none, some [.int .u8 (.ofNat 48), .int .u8 (.ofNat 46), .chan (some 4098)], []⟩,
  ⟨none, none, [⟨39, .chan (some 4107), .int .u8 (.ofNat 0), .chan (some 4108)⟩]⟩,
  ⟨none, none, []⟩,
  ⟨none, some [.int .u8 (.ofNat 10), .int .u8 (.ofNat 0), .int .u8 (.ofNat 0), .chan (some 4107)], []⟩,
  ⟨none, some [.int .u8 (.ofNat 0), .int .u8 (.ofNat 0), .int .u8 (.ofNat 0), .int .u8 (.ofNat 0), .int .u8 (.ofNat 0), .int .u8 (.ofNat 0), .int .u8 (.ofNat 0), .int .u8 (.ofNat 0), .int .u8 (.ofNat 0), .int .u8 (.ofNat 0), .int .u8 (.ofNat 255), .int .u8 (.ofNat 255), .int .u8 (.ofNat 10), .int .u8 (.ofNat 0), .int .u8 (.ofNat 0), .chan (some 4107)], []⟩,
  ⟨some (.u32, (.ofNat 0), (.ofNat 4294967295)), none, [⟨39, .chan (some 4111), .int .u8 (.ofNat 0), .chan (some 4112)⟩]⟩,
  ⟨some (.u64, (.ofNat 0), (.ofNat 18446744073709551615)), none, [⟨9, .chan (some 4112), .int .i64 (.ofNat 0), .chan (some 4113)⟩, ⟨9, .chan (some 4112), .int .i64 (.ofNat 8), .chan (some 4115)⟩, ⟨9, .chan (some 4112), .int .i64 (.ofNat 16), .chan (some 4117)⟩, ⟨9, .chan (some 4112), .int .i64 (.ofNat 24), .chan (some 4119)⟩]⟩,
  ⟨some (.u64, (.ofNat 0), (.ofNat 18446744073709551615)), none, [⟨36, .chan (some 4113), .int .u8 (.ofNat 0), .chan (some 4114)⟩]⟩,
  ⟨some (.u8, (.ofNat 0), (.ofNat 255)), none, []⟩,
  ⟨some (.u64, (.ofNat 0), (.ofNat 18446744073709551615)), none, [⟨36, .chan (some 4115), .int .u8 (.ofNat 0), .chan (some 4116)⟩]⟩,
  ⟨some (.u8, (.ofNat 0), (.ofNat 255)), none, []⟩,
  ⟨some (.u64, (.ofNat 0), (.ofNat 18446744073709551615)), none, [⟨36, .chan (some 4117), .int .u8 (.ofNat 0), .chan (some 4118)⟩]⟩,
  ⟨some (.u8, (.ofNat 0), (.ofNat 255)), none, []⟩,
  ⟨some (.u64, (.ofNat 0), (.ofNat 18446744073709551615)), none, [⟨36, .chan (some 4119), .int .u8 (.ofNat 0), .chan (some 4120)⟩]⟩,
  ⟨some (.u8, (.ofNat 0), (.ofNat 255)), none, []⟩]
noncomputable def tab0 : List NInfo := [⟨none, none, []⟩,
  ⟨some (.i64, (.ofNat 0), (.ofNat 9)), none, []⟩,
  ⟨some (.u8, (.ofNat 48), (.ofNat 57)), none, []⟩,
  ⟨none, none, []⟩,
  ⟨none, none, []⟩,
  ⟨none, none, []⟩,
  ⟨none, none, []⟩,
  ⟨none, none, []⟩,
  ⟨some (.i32, (.ofNat 48), (.ofNat 57)), none, []⟩,
  ⟨none, none, []⟩,
  ⟨none, none, []⟩,
  ⟨some (.u8, (.ofNat 0), (.ofNat 9)), none, []⟩,
  ⟨some (.u64, (.ofNat 0), (.ofNat 9)), none, [⟨0, .int .u64 (.ofNat 0), .chan (some 4108), .chan (some 4108)⟩, ⟨35, .chan (some 4108), .int .u8 (.ofNat 0), .chan (some 4097)⟩, ⟨36, .chan (some 4108), .int .u8 (.ofNat 0), .chan (some 4107)⟩]⟩,
  ⟨none, none, []⟩,
  ⟨none, none, []⟩,
  ⟨none, none, []⟩,
  ⟨none, none, []⟩,
  ⟨none, none, []⟩,
  ⟨none, none, []⟩,
  ⟨none, none, []⟩,
  ⟨none, none, []⟩,
  ⟨none, none, []⟩,
  ⟨none, none, []⟩,
  ⟨none, none, []⟩,
  ⟨none, none, []⟩]
noncomputable def tab : List NInfo := (unionT tabS tab0)
noncomputable def crcs : List (List Value × Value) := [([.int .u8 (.ofNat 1), .int .u8 (.ofNat 3), .int .u8 (.ofNat 0), .int .u8 (.ofNat 49), .int .u8 (.ofNat 47), .int .u8 (.ofNat 104), .int .u8 (.ofNat 0), .int .u8 (.ofNat 0), .int .u8 (.ofNat 0), .int .u8 (.ofNat 0), .int .u8 (.ofNat 0), .int .u8 (.ofNat 0), .int .u8 (.ofNat 0), .int .u8 (.ofNat 0), .int .u8 (.ofNat 0), .int .u8 (.ofNat 0), .int .u8 (.ofNat 0), .int .u8 (.ofNat 0), .int .u8 (.ofNat 0), .int .u8 (.ofNat 0), .int .u8 (.ofNat 0), .int .u8 (.ofNat 0), .int .u8 (.ofNat 88), .int .u8 (.ofNat 2), .int .u8 (.ofNat 0), .int .u8 (.ofNat 0), .int .u8 (.ofNat 0), .int .u8 (.ofNat 0), .int .u8 (.ofNat 0), .int .u8 (.ofNat 0), .int .u8 (.ofNat 88), .int .u8 (.ofNat 2), .int .u8 (.ofNat 0), .int .u8 (.ofNat 0), .int .u8 (.ofNat 0), .int .u8 (.ofNat 0), .int .u8 (.ofNat 0), .int .u8 (.ofNat 0), .int .u8 (.ofNat 0), .int .u8 (.ofNat 1), .int .u8 (.ofNat 4), .int .u8 (.ofNat 0), .int .u8 (.ofNat 10), .int .u8 (.ofNat 0), .int .u8 (.ofNat 0), .chan (some 4107), .int .u8 (.ofNat 1), .int .u8 (.ofNat 10), .int .u8 (.ofNat 0), .int .u8 (.ofNat 47), .int .u8 (.ofNat 101), .int .u8 (.ofNat 116), .int .u8 (.ofNat 99), .int .u8 (.ofNat 47), .int .u8 (.ofNat 104), .int .u8 (.ofNat 111), .int .u8 (.ofNat 115), .int .u8 (.ofNat 116), .int .u8 (.ofNat 115), .int .u8 (.ofNat 1), .int .u8 (.ofNat 0), .int .u8 (.ofNat 0), .int .u8 (.ofNat 0), .int .u8 (.ofNat 0), .int .u8 (.ofNat 0), .int .u8 (.ofNat 0), .int .u8 (.ofNat 0)], .chan (some 4111))]
noncomputable abbrev base (a0 : Int) (x0 : Nat) : List Value := [.int .i64 a0, .int .i64 (.ofNat x0)]
noncomputable abbrev G (a0 : Int) (x0 : Nat) : Sym := symL (mkVals ds (base a0 x0))
set_option maxRecDepth 100000 in
theorem refs_ok : refsAll ds 2 = true := by kernel_rfl
set_option maxRecDepth 100000 in
theorem nam_ok : namDs ds = true := by kernel_rfl
set_option maxRecDepth 100000 in
theorem len_ok : Nat.ble tab.length 4096 = true := by kernel_rfl
set_option maxRecDepth 100000 in
theorem crcs_ok : crcsB ds 2 crcs = true := by kernel_rfl
set_option maxRecDepth 100000 in
theorem sym_ok : symTab (ksOf ds [none, some .i64]) ds 2 tabS 0 = true := by kernel_rfl
set_option maxRecDepth 100000 in
theorem tab0_all (a0 : Int) : allB 10 (fun i0 => tabB (G a0 (0 + i0)) tab0 0) = true := by kernel_rfl
theorem tab0_ok (a0 : Int) (x0 : Nat) (h0 : 0 ≤ x0 ∧ x0 < 10) : TabOk (G a0 x0) tab0 := by
  have h := (allB_spec (tab0_all a0 ) (x0 - 0) (by omega))
  rw [show 0 + (x0 - 0) = x0 by omega] at h
  exact tabB_part h
theorem kinv (a0 : Int) (x0 : Nat) (h0 : 0 ≤ x0 ∧ x0 < 10) : KInv (symL (base a0 x0)) [none, some .i64] := by
  intro i k hi
  match i, hi with
  | 0, hi => cases hi
  | 1, hi => cases hi; exact ⟨.ofNat x0, rfl, by rw [inK_iff]; show (-9223372036854775808 : Int) ≤ (x0 : Int) ∧ (x0 : Int) ≤ 9223372036854775807; omega⟩
  | n + 2, hi => cases hi
theorem named_ok (a0 : Int) (x0 : Nat) (i : Nat) : named (G a0 x0 i) := symL_named' (mkVals_named (by intro v hv; simp only [base, List.mem_cons, List.not_mem_nil, or_false] at hv; rcases hv with rfl | rfl <;> trivial) nam_ok) i
theorem names_ok (a0 : Int) (x0 : Nat) (h0 : 0 ≤ x0 ∧ x0 < 10) : NamesOk (G a0 x0) (Names.ofL tab) := namesOk_parts (named_ok a0 x0) len_ok (TabOk.union (symTab_part (l := base a0 x0) rfl (kinv a0 x0 h0) refs_ok sym_ok) (tab0_ok a0 x0 h0 ))
theorem crc_ok (a0 : Int) (x0 : Nat) : CrcOk (G a0 x0) crcs := crcsB_ok (l := base a0 x0) refs_ok crcs_ok
theorem gb0 (a0 : Int) (x0 : Nat) : G a0 x0 (4096 - 4096) = .int .i64 a0 := by
  show symL (mkVals ds (base a0 x0)) 0 = _
  rw [symL_low ds (base a0 x0) 0 (by simp)]
  rfl
theorem gb1 (a0 : Int) (x0 : Nat) : G a0 x0 (4097 - 4096) = .int .i64 (.ofNat x0) := by
  show symL (mkVals ds (base a0 x0)) 1 = _
  rw [symL_low ds (base a0 x0) 1 (by simp)]
  rfl
noncomputable def pargs0 : List Value := [.chan (some 4097)]
noncomputable def pres0 : Value := .chan (some 4099)
noncomputable def pargs1 : List Value := [.chan (some 4097)]
noncomputable def pres1 : Value := .chan (some 4099)
end Go.Proofs.YtpficieiefgbfaaGreatDoor.topremoved.d1t
namespace Go.Proofs.YtpficieiefgbfaaGreatDoor.topremoved.d2t
open Go Vai
set_option linter.unusedVariables false
set_option linter.unusedSimpArgs false
noncomputable def ds : List NDef := [.idx .u8 (.chan (some 4097)) 10 [.ofNat 49, .ofNat 49, .ofNat 49, .ofNat 49, .ofNat 49, .ofNat 49, .ofNat 49, .ofNat 49, .ofNat 49, .ofNat 49, .ofNat 50, .ofNat 50, .ofNat 50, .ofNat 50, .ofNat 50, .ofNat 50, .ofNat 50, .ofNat 50, .ofNat 50, .ofNat 50, .ofNat 51, .ofNat 51, .ofNat 51, .ofNat 51, .ofNat 51, .ofNat 51, .ofNat 51, .ofNat 51, .ofNat 51, .ofNat 51, .ofNat 52, .ofNat 52, .ofNat 52, .ofNat 52, .ofNat 52, .ofNat 52, .ofNat 52, .ofNat 52, .ofNat 52, .ofNat 52, .ofNat 53, .ofNat 53, .ofNat 53, .ofNat 53, .ofNat 53, .ofNat 53, .ofNat 53, .ofNat 53, .ofNat 53, .ofNat 53, .ofNat 54, .ofNat 54, .ofNat 54, .ofNat 54, .ofNat 54, .ofNat 54, .ofNat 54, .ofNat 54, .ofNat 54, .ofNat 54, .ofNat 55, .ofNat 55, .ofNat 55, .ofNat 55, .ofNat 55, .ofNat 55, .ofNat 55, .ofNat 55, .ofNat 55, .ofNat 55, .ofNat 56, .ofNat 56, .ofNat 56, .ofNat 56, .ofNat 56, .ofNat 56, .ofNat 56, .ofNat 56, .ofNat 56, .ofNat 56, .ofNat 57, .ofNat 57, .ofNat 57, .ofNat 57, .ofNat 57, .ofNat 57, .ofNat 57, .ofNat 57, .ofNat 57, .ofNat 57],
  .idx .u8 (.chan (some 4097)) 10 [.ofNat 48, .ofNat 49, .ofNat 50, .ofNat 51, .ofNat 52, .ofNat 53, .ofNat 54, .ofNat 55, .ofNat 56, .ofNat 57, .ofNat 48, .ofNat 49, .ofNat 50, .ofNat 51, .ofNat 52, .ofNat 53, .ofNat 54, .ofNat 55, .ofNat 56, .ofNat 57, .ofNat 48, .ofNat 49, .ofNat 50, .ofNat 51, .ofNat 52, .ofNat 53, .ofNat 54, .ofNat 55, .ofNat 56, .ofNat 57, .ofNat 48, .ofNat 49, .ofNat 50, .ofNat 51, .ofNat 52, .ofNat 53, .ofNat 54, .ofNat 55, .ofNat 56, .ofNat 57, .ofNat 48, .ofNat 49, .ofNat 50, .ofNat 51, .ofNat 52, .ofNat 53, .ofNat 54, .ofNat 55, .ofNat 56, .ofNat 57, .ofNat 48, .ofNat 49, .ofNat 50, .ofNat 51, .ofNat 52, .ofNat 53, .ofNat 54, .ofNat 55, .ofNat 56, .ofNat 57, .ofNat 48, .ofNat 49, .ofNat 50, .ofNat 51, .ofNat 52, .ofNat 53, .ofNat 54, .ofNat 55, .ofNat 56, .ofNat 57, .ofNat 48, .ofNat 49, .ofNat 50, .ofNat 51, .ofNat 52, .ofNat 53, .ofNat 54, .ofNat 55, .ofNat 56, .ofNat 57, .ofNat 48, .ofNat 49, .ofNat 50, .ofNat 51, .ofNat 52, .ofNat 53, .ofNat 54, .ofNat 55, .ofNat 56, .ofNat 57],
  .str [.chan (some 4098), .chan (some 4099)],
  .str [.int .u8 (.ofNat 49), .int .u8 (.ofNat 48), .int .u8 (.ofNat 46), .int .u8 (.ofNat 48), .int .u8 (.ofNat 46), .int .u8 (.ofNat 48), .int .u8 (.ofNat 46), .chan (some 4098), .chan (some 4099)],
  .str [.int .u8 (.ofNat 49), .int .u8 (.ofNat 48), .int .u8 (.ofNat 46), .int .u8 (.ofNat 48), .int .u8 (.ofNat 46), .int .u8 (.ofNat 48), .int .u8 (.ofNat 46), .chan (some 4098), .chan (some 4099), .int .u8 (.ofNat 32), .int .u8 (.ofNat 111), .int .u8 (.ofNat 116), .int .u8 (.ofNat 104), .int .u8 (.ofNat 101), .int .u8 (.ofNat 114), .int .u8 (.ofNat 10)],
  .str [.int .u8 (.ofNat 49), .int .u8 (.ofNat 48), .int .u8 (.ofNat 46), .int .u8 (.ofNat 48), .int .u8 (.ofNat 46), .int .u8 (.ofNat 48), .int .u8 (.ofNat 46), .chan (some 4098), .chan (some 4099), .int .u8 (.ofNat 32), .int .u8 (.ofNat 104), .int .u8 (.ofNat 10)],
  .str [.int .u8 (.ofNat 49), .int .u8 (.ofNat 48), .int .u8 (.ofNat 46), .int .u8 (.ofNat 48), .int .u8 (.ofNat 46), .int .u8 (.ofNat 48), .int .u8 (.ofNat 46), .chan (some 4098), .chan (some 4099), .int .u8 (.ofNat 32), .int .u8 (.ofNat 104)],
  .ent 34 (.chan (some 4098)) (.int .u8 (.ofNat 0)),
  .ent 34 (.chan (some 4099)) (.int .u8 (.ofNat 0)),
  .str [.int .u8 (.ofNat 48), .int .u8 (.ofNat 46), .int .u8 (.ofNat 48), .int .u8 (.ofNat 46), .chan (some 4098), .chan (some 4099)],
  .str [.int .u8 (.ofNat 48), .int .u8 (.ofNat 46), .chan (some 4098), .chan (some 4099)],
  .ent 1 (.chan (some 4098)) (.int .u8 (.ofNat 48)),
  .ent 39 (.chan (some 4109)) (.int .u8 (.ofNat 0)),
  .ent 1 (.chan (some 4099)) (.int .u8 (.ofNat 48)),
  .ent 2 (.chan (some 4110)) (.int .u64 (.ofNat 10)),
  .ent 39 (.chan (some 4111)) (.int .u8 (.ofNat 0)),
  .ent 0 (.chan (some 4112)) (.chan (some 4113)),
  .ent 36 (.chan (some 4114)) (.int .u8 (.ofNat 0)),
  .str [.int .u8 (.ofNat 10), .int .u8 (.ofNat 0), .int .u8 (.ofNat 0), .chan (some 4115)],
  .str [.int .u8 (.ofNat 0), .int .u8 (.ofNat 0), .int .u8 (.ofNat 0), .int .u8 (.ofNat 0), .int .u8 (.ofNat 0), .int .u8 (.ofNat 0), .int .u8 (.ofNat 0), .int .u8 (.ofNat 0), .int .u8 (.ofNat 0), .int .u8 (.ofNat 0), .int .u8 (.ofNat 255), .int .u8 (.ofNat 255), .int .u8 (.ofNat 10), .int .u8 (.ofNat 0), .int .u8 (.ofNat 0), .chan (some 4115)],
  .crc [.int .u8 (.ofNat 1), .int .u8 (.ofNat 3), .int .u8 (.ofNat 0), .int .u8 (.ofNat 49), .int .u8 (.ofNat 47), .int .u8 (.ofNat 104), .int .u8 (.ofNat 0), .int .u8 (.ofNat 0), .int .u8 (.ofNat 0), .int .u8 (.ofNat 0), .int .u8 (.ofNat 0), .int .u8 (.ofNat 0), .int .u8 (.ofNat 0), .int .u8 (.ofNat 0), .int .u8 (.ofNat 0), .int .u8 (.ofNat 0), .int .u8 (.ofNat 0), .int .u8 (.ofNat 0), .int .u8 (.ofNat 0), .int .u8 (.ofNat 0), .int .u8 (.ofNat 0), .int .u8 (.ofNat 0), .int .u8 (.ofNat 88), .int .u8 (.ofNat 2), .int .u8 (.ofNat 0), .int .u8 (.ofNat 0), .int .u8 (.ofNat 0), .int .u8 (.ofNat 0), .int .u8 (.ofNat 0), .int .u8 (.ofNat 0), .int .u8 (.ofNat 88), .int .u8 (.ofNat 2), .int .u8 (.ofNat 0), .int .u8 (.ofNat 0), .int .u8 (.ofNat 0), .int .u8 (.ofNat 0), .int .u8 (.ofNat 0), .int .u8 (.ofNat 0), .int .u8 (.ofNat 0), .int .u8 (.ofNat 1), .int .u8 (.ofNat 4), .int .u8 (.ofNat 0), .int .u8 (.ofNat 10), .int .u8 (.ofNat 0), .int .u8 (.ofNat 0), .chan (some 4115), .int .u8 (.ofNat 1), .int .u8 (.ofNat 10), .int .u8 (.ofNat 0), .int .u8 (.ofNat 47), .int .u8 (.ofNat 101), .int .u8 (.ofNat 116), .int .u8 (.ofNat 99), .int .u8 (.ofNat 47), .int .u8 (.ofNat 104), .int .u8 (.ofNat 111), .int .u8 (.ofNat 115), .int .u8 (.ofNat 116), .int .u8 (.ofNat 115), .int .u8 (.ofNat 1), .int .u8 (.ofNat 0), .int .u8 (.ofNat 0), .int .u8 (.ofNat 0), .int .u8 (.ofNat 0), .int .u8 (.ofNat 0), .int .u8 (.ofNat 0), .int .u8 (.ofNat 0)],
  .ent 39 (.chan (some 4118)) (.int .u8 (.ofNat 0)),
  .ent 9 (.chan (some 4119)) (.int .i64 (.ofNat 0)),
  .ent 36 (.chan (some 4120)) (.int .u8 (.ofNat 0)),
  .ent 9 (.chan (some 4119)) (.int .i64 (.ofNat 8)),
  .ent 36 (.chan (some 4122)) (.int .u8 (.ofNat 0)),
  .ent 9 (.chan (some 4119)) (.int .i64 (.ofNat 16)),
  .ent 36 (.chan (some 4124)) (.int .u8 (.ofNat 0)),
  .ent 9 (.chan (some 4119)) (.int .i64 (.ofNat 24)),
  .ent 36 (.chan (some 4126)) (.int .u8 (.ofNat 0))]
noncomputable def tabS : List NInfo := [⟨none, none, []⟩,
  ⟨none, none, []⟩,
  ⟨none, none, [⟨34, .chan (some 4098), .int .u8 (.ofNat 0), .chan (some 4105)⟩, ⟨1, .chan (some 4098), .int .u8 (.ofNat 48), .chan (some 4109)⟩]⟩,
  ⟨none, none, [⟨34, .chan (some 4099), .int .u8 (.ofNat 0), .chan (some 4106)⟩, ⟨1, .chan (some 4099), .int .u8 (.ofNat 48), .chan (some 4111)⟩]⟩,
  ⟨none, some [.chan (some 4098), .chan (some 4099)], []⟩,
  ⟨none, some [.int .u8 (.ofNat 49), .int .u8 (.ofNat 48), .int .u8 (.ofNat 46), .int .u8 (.ofNat 48), .int .u8 (.ofNat 46), .int .u8 (.ofNat 48), .int .u8 (.ofNat 46), .chan (some 4098), .chan (some 4099)], []⟩,
  ⟨none, some [.int .u8 (.ofNat 49), .int .u8 (.ofNat 48), .int .u8 (.ofNat 46), .int .u8 (.ofNat 48), .int .u8 (.ofNat 46), .int .u8 (.ofNat 48), .int .u8 (.ofNat 46), .chan (some 4098), .chan (some 4099), .int .u8 (.ofNat 32), .int .u8 (.ofNat 111), .int .u8 (.ofNat 116), .int .u8 (.ofNat 104), .int .u8 (.ofNat 101), .int .u8 (.ofNat 114), .int .u8 (.ofNat 10)], []⟩,
  ⟨none, some [.int .u8 (.ofNat 49), .int .u8 (.ofNat 48), .int .u8 (.ofNat 46), .int .u8 (.ofNat 48), .int .u8 (.ofNat 46), .int .u8 (.ofNat 48), .int .u8 (.ofNat 46), .chan (some 4098), .chan (some 4099), .int .u8 (.ofNat 32), .int .u8 (.ofNat 104), .int .u8 (.ofNat 10)], []⟩,
  ⟨none, some [.int .u8 (.ofNat 49), .int .u8 (.ofNat 48), .int .u8 (.ofNat 46), .int .u8 (.ofNat 48), .int .u8 (.ofNat 46), .int .u8 (.ofNat 48), .int .u8 (.ofNat 46), .chan (some 4098), .chan (some 4099), .int .u8 (.ofNat 32), .int .u8 (.ofNat 104)], []⟩,
  ⟨none, none, []⟩,
  ⟨none, none, []⟩,
  ⟨none, some [.int .u8 (.ofNat 48), .int .u8 (.ofNat 46), .int .u8 (.ofNat 48), .int .u8 (.ofNat 46), .chan (some 4098), .chan (some 4099)], []⟩,
  ⟨none, some [.int .u8 (.ofNat 48), .int .u8 (.ofNat 46), .chan (some 4098), .chan (some 4099)], []⟩,
  ⟨none, none, [⟨39, .chan (some 4109), .int .u8 (.ofNat 0), .chan (some 4110)⟩]⟩,
  ⟨none, none, [⟨2, .chan (some 4110), .int .u64 (.ofNat 10), .chan (some 4112)⟩]⟩,
  ⟨none, none, [⟨39, .chan (some 4111), .int .u8 (.ofNat 0), .chan (some 4113)⟩]⟩,
  ⟨none, none, [⟨0, .chan (some 4112), .chan (some 4113), .chan (some 4114)⟩]⟩,
  ⟨none, none, []⟩,
  ⟨none, none, [⟨36, .chan (some 4114), .int .u8 (.ofNat 0), .chan (some 4115)⟩]⟩,
  ⟨none, none, []⟩,
  ⟨none, some [.int .u8 (.ofNat 10), .int .u8 (.ofNat 0), .int .u8 (.ofNat 0), .chan (some 4115)], []⟩,
  ⟨none, some [.int .u8 (.ofNat 0), .int .u8 (.ofNat 0), .int .u8 (.ofNat 0), .int .u8 (.ofNat 0), .int .u8 (.ofNat 0), .int .u8 (.ofNat 0), .int .u8 (.ofNat 0), .int .u8 (.ofNat 0), .int .u8 (.ofNat 0), .int .u8 (.ofNat 0), .int .u8 (.ofNat 255), .int .u8 (.ofNat 255), .int .u8 (.ofNat 10), .int .u8 (.ofNat 0), .int .u8 (.ofNat 0), .chan (some 4115)], []⟩,
  ⟨some (.u32, (.ofNat 0), (.ofNat 4294967295)), none, [⟨39, .chan (some 4118), .int .u8 (.ofNat 0), .chan (some 4119)⟩]⟩,
  ⟨some (.u64, (.ofNat 0), (.ofNat 18446744073709551615)), none, [⟨9, .chan (some 4119), .int .i64 (.ofNat 0), .chan (some 4120)⟩, ⟨9, .chan (some 4119), .int .i64 (.ofNat 8), .chan (some 4122)⟩, ⟨9, .chan (some 4119), .int .i64 (.ofNat 16), .chan (some 4124)⟩, ⟨9, .chan (some 4119), .int .i64 (.ofNat 24), .chan (some 4126)⟩]⟩,
  ⟨some (.u64, (.ofNat 0), (.ofNat 18446744073709551615)), none, [⟨36, .chan (some 4120), .int .u8 (.ofNat 0), .chan (some 4121)⟩]⟩,
  ⟨some (.u8, (.ofNat 0), (.ofNat 255)), none, []⟩,
  ⟨some (.u64, (.ofNat 0), (.ofNat 18446744073709551615)), none, [⟨36, .chan (some 4122), .int .u8 (.ofNat 0), .chan (some 4123)⟩]⟩,
  ⟨some (.u8, (.ofNat 0), (.ofNat 255)), none, []⟩,
  ⟨some (.u64, (.ofNat 0), (.ofNat 18446744073709551615)), none, [⟨36, .chan (some 4124), .int .u8 (.ofNat 0), .chan (some 4125)⟩]⟩,
  ⟨some (.u8, (.ofNat 0), (.ofNat 255)), none, []⟩,
  ⟨some (.u64, (.ofNat 0), (.ofNat 18446744073709551615)), none, [⟨36, .chan (some 4126), .int .u8 (.ofNat 0), .chan (some 4127)⟩]⟩,
  ⟨some (.u8, (.ofNat 0), (.ofNat 255)), none, []⟩]
noncomputable def tab0 : List NInfo := [⟨none, none, []⟩,
  ⟨some (.i64, (.ofNat 10), (.ofNat 99)), none, []⟩,
  ⟨some (.u8, (.ofNat 49), (.ofNat 57)), none, []⟩,
  ⟨some (.u8, (.ofNat 48), (.ofNat 57)), none, []⟩,
  ⟨none, none, []⟩,
  ⟨none, none, []⟩,
  ⟨none, none, []⟩,
  ⟨none, none, []⟩,
  ⟨none, none, []⟩,
  ⟨some (.i32, (.ofNat 49), (.ofNat 57)), none, []⟩,
  ⟨some (.i32, (.ofNat 48), (.ofNat 57)), none, []⟩,
  ⟨none, none, []⟩,
  ⟨none, none, []⟩,
  ⟨some (.u8, (.ofNat 1), (.ofNat 9)), none, []⟩,
  ⟨some (.u64, (.ofNat 1), (.ofNat 9)), none, [⟨0, .int .u64 (.ofNat 0), .chan (some 4110), .chan (some 4110)⟩]⟩,
  ⟨some (.u8, (.ofNat 0), (.ofNat 9)), none, []⟩,
  ⟨some (.u64, (.ofNat 10), (.ofNat 90)), none, []⟩,
  ⟨some (.u64, (.ofNat 0), (.ofNat 9)), none, []⟩,
  ⟨some (.u64, (.ofNat 10), (.ofNat 99)), none, [⟨13, .chan (some 4114), .chan (some 4112), .bool false⟩, ⟨35, .chan (some 4114), .int .u8 (.ofNat 0), .chan (some 4097)⟩]⟩,
  ⟨some (.u8, (.ofNat 10), (.ofNat 99)), none, []⟩,
  ⟨none, none, []⟩,
  ⟨none, none, []⟩,
  ⟨none, none, []⟩,
  ⟨none, none, []⟩,
  ⟨none, none, []⟩,
  ⟨none, none, []⟩,
  ⟨none, none, []⟩,
  ⟨none, none, []⟩,
  ⟨none, none, []⟩,
  ⟨none, none, []⟩,
  ⟨none, none, []⟩,
  ⟨none, none, []⟩]
noncomputable def tab : List NInfo := (unionT tabS tab0)
noncomputable def crcs : List (List Value × Value) := [([.int .u8 (.ofNat 1), .int .u8 (.ofNat 3), .int .u8 (.ofNat 0), .int .u8 (.ofNat 49), .int .u8 (.ofNat 47), .int .u8 (.ofNat 104), .int .u8 (.ofNat 0), .int .u8 (.ofNat 0), .int .u8 (.ofNat 0), .int .u8 (.ofNat 0), .int .u8 (.ofNat 0), .int .u8 (.ofNat 0), .int .u8 (.ofNat 0), .int .u8 (.ofNat 0), .int .u8 (.ofNat 0), .int .u8 (.ofNat 0), .int .u8 (.ofNat 0), .int .u8 (.ofNat 0), .int .u8 (.ofNat 0), .int .u8 (.ofNat 0), .int .u8 (.ofNat 0), .int .u8 (.ofNat 0), .int .u8 (.ofNat 88), .int .u8 (.ofNat 2), .int .u8 (.ofNat 0), .int .u8 (.ofNat 0), .int .u8 (.ofNat 0), .int .u8 (.ofNat 0), .int .u8 (.ofNat 0), .int .u8 (.ofNat 0), .int .u8 (.ofNat 88), .int .u8 (.ofNat 2), .int .u8 (.ofNat 0), .int .u8 (.ofNat 0), .int .u8 (.ofNat 0), .int .u8 (.ofNat 0), .int .u8 (.ofNat 0), .int .u8 (.ofNat 0), .int .u8 (.ofNat 0), .int .u8 (.ofNat 1), .int .u8 (.ofNat 4), .int .u8 (.ofNat 0), .int .u8 (.ofNat 10), .int .u8 (.ofNat 0), .int .u8 (.ofNat 0), .chan (some 4115), .int .u8 (.ofNat 1), .int .u8 (.ofNat 10), .int .u8 (.ofNat 0), .int .u8 (.ofNat 47), .int .u8 (.ofNat 101), .int .u8 (.ofNat 116), .int .u8 (.ofNat 99), .int .u8 (.ofNat 47), .int .u8 (.ofNat 104), .int .u8 (.ofNat 111), .int .u8 (.ofNat 115), .int .u8 (.ofNat 116), .int .u8 (.ofNat 115), .int .u8 (.ofNat 1), .int .u8 (.ofNat 0), .int .u8 (.ofNat 0), .int .u8 (.ofNat 0), .int .u8 (.ofNat 0), .int .u8 (.ofNat 0), .int .u8 (.ofNat 0), .int .u8 (.ofNat 0)], .chan (some 4118))]
noncomputable abbrev base (a0 : Int) (x0 : Nat) : List Value := [.int .i64 a0, .int .i64 (.ofNat x0)]
noncomputable abbrev G (a0 : Int) (x0 : Nat) : Sym := symL (mkVals ds (base a0 x0))
set_option maxRecDepth 100000 in
theorem refs_ok : refsAll ds 2 = true := by kernel_rfl
set_option maxRecDepth 100000 in
theorem nam_ok : namDs ds = true := by kernel_rfl
set_option maxRecDepth 100000 in
theorem len_ok : Nat.ble tab.length 4096 = true := by kernel_rfl
set_option maxRecDepth 100000 in
theorem crcs_ok : crcsB ds 2 crcs = true := by kernel_rfl
set_option maxRecDepth 100000 in
theorem sym_ok : symTab (ksOf ds [none, some .i64]) ds 2 tabS 0 = true := by kernel_rfl
set_option maxRecDepth 100000 in
theorem tab0_all (a0 : Int) : allB 90 (fun i0 => tabB (G a0 (10 + i0)) tab0 0) = true := by kernel_rfl
theorem tab0_ok (a0 : Int) (x0 : Nat) (h0 : 10 ≤ x0 ∧ x0 < 100) : TabOk (G a0 x0) tab0 := by
  have h := (allB_spec (tab0_all a0 ) (x0 - 10) (by omega))
  rw [show 10 + (x0 - 10) = x0 by omega] at h
  exact tabB_part h
theorem kinv (a0 : Int) (x0 : Nat) (h0 : 10 ≤ x0 ∧ x0 < 100) : KInv (symL (base a0 x0)) [none, some .i64] := by
  intro i k hi
  match i, hi with
  | 0, hi => cases hi
  | 1, hi => cases hi; exact ⟨.ofNat x0, rfl, by rw [inK_iff]; show (-9223372036854775808 : Int) ≤ (x0 : Int) ∧ (x0 : Int) ≤ 9223372036854775807; omega⟩
  | n + 2, hi => cases hi
theorem named_ok (a0 : Int) (x0 : Nat) (i : Nat) : named (G a0 x0 i) := symL_named' (mkVals_named (by intro v hv; simp only [base, List.mem_cons, List.not_mem_nil, or_false] at hv; rcases hv with rfl | rfl <;> trivial) nam_ok) i
theorem names_ok (a0 : Int) (x0 : Nat) (h0 : 10 ≤ x0 ∧ x0 < 100) : NamesOk (G a0 x0) (Names.ofL tab) := namesOk_parts (named_ok a0 x0) len_ok (TabOk.union (symTab_part (l := base a0 x0) rfl (kinv a0 x0 h0) refs_ok sym_ok) (tab0_ok a0 x0 h0 ))
theorem crc_ok (a0 : Int) (x0 : Nat) : CrcOk (G a0 x0) crcs := crcsB_ok (l := base a0 x0) refs_ok crcs_ok
theorem gb0 (a0 : Int) (x0 : Nat) : G a0 x0 (4096 - 4096) = .int .i64 a0 := by
  show symL (mkVals ds (base a0 x0)) 0 = _
  rw [symL_low ds (base a0 x0) 0 (by simp)]
  rfl
theorem gb1 (a0 : Int) (x0 : Nat) : G a0 x0 (4097 - 4096) = .int .i64 (.ofNat x0) := by
  show symL (mkVals ds (base a0 x0)) 1 = _
  rw [symL_low ds (base a0 x0) 1 (by simp)]
  rfl
noncomputable def pargs0 : List Value := [.chan (some 4097)]
noncomputable def pres0 : Value := .chan (some 4100)
noncomputable def pargs1 : List Value := [.chan (some 4097)]
noncomputable def pres1 : Value := .chan (some 4100)
end Go.Proofs.YtpficieiefgbfaaGreatDoor.topremoved.d2t
namespace Go.Proofs.YtpficieiefgbfaaGreatDoor.topremoved.d3t
open Go Vai
set_option linter.unusedVariables false
set_option linter.unusedSimpArgs false
noncomputable def ds : List NDef := [.idx .u8 (.chan (some 4097)) 100 [.ofNat 49, .ofNat 49, .ofNat 49, .ofNat 49, .ofNat 49, .ofNat 49, .ofNat 49, .ofNat 49, .ofNat 49, .ofNat 49, .ofNat 49, .ofNat 49, .ofNat 49, .ofNat 49, .ofNat 49, .ofNat 49, .ofNat 49, .ofNat 49, .ofNat 49, .ofNat 49, .ofNat 49, .ofNat 49, .ofNat 49, .ofNat 49, .ofNat 49, .ofNat 49, .ofNat 49, .ofNat 49, .ofNat 49, .ofNat 49, .ofNat 49, .ofNat 49, .ofNat 49, .ofNat 49, .ofNat 49, .ofNat 49, .ofNat 49, .ofNat 49, .ofNat 49, .ofNat 49, .ofNat 49, .ofNat 49, .ofNat 49, .ofNat 49, .ofNat 49, .ofNat 49, .ofNat 49, .ofNat 49, .ofNat 49, .ofNat 49, .ofNat 49, .ofNat 49, .ofNat 49, .ofNat 49, .ofNat 49, .ofNat 49, .ofNat 49, .ofNat 49, .ofNat 49, .ofNat 49, .ofNat 49, .ofNat 49, .ofNat 49, .ofNat 49, .ofNat 49, .ofNat 49, .ofNat 49, .ofNat 49, .ofNat 49, .ofNat 49, .ofNat 49, .ofNat 49, .ofNat 49, .ofNat 49, .ofNat 49, .ofNat 49, .ofNat 49, .ofNat 49, .ofNat 49, .ofNat 49, .ofNat 49, .ofNat 49, .ofNat 49, .ofNat 49, .ofNat 49, .ofNat 49, .ofNat 49, .ofNat 49, .ofNat 49, .ofNat 49, .ofNat 49, .ofNat 49, .ofNat 49, .ofNat 49, .ofNat 49, .ofNat 49, .ofNat 49, .ofNat 49, .ofNat 49, .ofNat 49, .ofNat 50, .ofNat 50, .ofNat 50, .ofNat 50, .ofNat 50, .ofNat 50, .ofNat 50, .ofNat 50, .ofNat 50, .ofNat 50, .ofNat 50, .ofNat 50, .ofNat 50, .ofNat 50, .ofNat 50, .ofNat 50, .ofNat 50, .ofNat 50, .ofNat 50, .ofNat 50, .ofNat 50, .ofNat 50, .ofNat 50, .ofNat 50, .ofNat 50, .ofNat 50, .ofNat 50, .ofNat 50, .ofNat 50, .ofNat 50, .ofNat 50, .ofNat 50, .ofNat 50, .ofNat 50, .ofNat 50, .ofNat 50, .ofNat 50, .ofNat 50, .ofNat 50, .ofNat 50, .ofNat 50, .ofNat 50, .ofNat 50, .ofNat 50, .ofNat 50, .ofNat 50, .ofNat 50, .ofNat 50, .ofNat 50, .ofNat 50],
  .idx .u8 (.chan (some 4097)) 100 [.ofNat 48, .ofNat 48, .ofNat 48, .ofNat 48, .ofNat 48, .ofNat 48, .ofNat 48, .ofNat 48, .ofNat 48, .ofNat 48, .ofNat 49, .ofNat 49, .ofNat 49, .ofNat 49, .ofNat 49, .ofNat 49, .ofNat 49, .ofNat 49, .ofNat 49, .ofNat 49, .ofNat 50, .ofNat 50, .ofNat 50, .ofNat 50, .ofNat 50, .ofNat 50, .ofNat 50, .ofNat 50, .ofNat 50, .ofNat 50, .ofNat 51, .ofNat 51, .ofNat 51, .ofNat 51, .ofNat 51, .ofNat 51, .ofNat 51, .ofNat 51, .ofNat 51, .ofNat 51, .ofNat 52, .ofNat 52, .ofNat 52, .ofNat 52, .ofNat 52, .ofNat 52, .ofNat 52, .ofNat 52, .ofNat 52, .ofNat 52, .ofNat 53, .ofNat 53, .ofNat 53, .ofNat 53, .ofNat 53, .ofNat 53, .ofNat 53, .ofNat 53, .ofNat 53, .ofNat 53, .ofNat 54, .ofNat 54, .ofNat 54, .ofNat 54, .ofNat 54, .ofNat 54, .ofNat 54, .ofNat 54, .ofNat 54, .ofNat 54, .ofNat 55, .ofNat 55, .ofNat 55, .ofNat 55, .ofNat 55, .ofNat 55, .ofNat 55, .ofNat 55, .ofNat 55, .ofNat 55, .ofNat 56, .ofNat 56, .ofNat 56, .ofNat 56, .ofNat 56, .ofNat 56, .ofNat 56, .ofNat 56, .ofNat 56, .ofNat 56, .ofNat 57, .ofNat 57, .ofNat 57, .ofNat 57, .ofNat 57, .ofNat 57, .ofNat 57, .ofNat 57, .ofNat 57, .ofNat 57, .ofNat 48, .ofNat 48, .ofNat 48, .ofNat 48, .ofNat 48, .ofNat 48, .ofNat 48, .ofNat 48, .ofNat 48, .ofNat 48, .ofNat 49, .ofNat 49, .ofNat 49, .ofNat 49, .ofNat 49, .ofNat 49, .ofNat 49, .ofNat 49, .ofNat 49, .ofNat 49, .ofNat 50, .ofNat 50, .ofNat 50, .ofNat 50, .ofNat 50, .ofNat 50, .ofNat 50, .ofNat 50, .ofNat 50, .ofNat 50, .ofNat 51, .ofNat 51, .ofNat 51, .ofNat 51, .ofNat 51, .ofNat 51, .ofNat 51, .ofNat 51, .ofNat 51, .ofNat 51, .ofNat 52, .ofNat 52, .ofNat 52, .ofNat 52, .ofNat 52, .ofNat 52, .ofNat 52, .ofNat 52, .ofNat 52, .ofNat 52],
  .idx .u8 (.chan (some 4097)) 100 [.ofNat 48, .ofNat 49, .ofNat 50, .ofNat 51, .ofNat 52, .ofNat 53, .ofNat 54, .ofNat 55, .ofNat 56, .ofNat 57, .ofNat 48, .ofNat 49, .ofNat 50, .ofNat 51, .ofNat 52, .ofNat 53, .ofNat 54, .ofNat 55, .ofNat 56, .ofNat 57, .ofNat 48, .ofNat 49, .ofNat 50, .ofNat 51, .ofNat 52, .ofNat 53, .ofNat 54, .ofNat 55, .ofNat 56, .ofNat 57, .ofNat 48, .ofNat 49, .ofNat 50, .ofNat 51, .ofNat 52, .ofNat 53, .ofNat 54, .ofNat 55, .ofNat 56, .ofNat 57, .ofNat 48, .ofNat 49, .ofNat 50, .ofNat 51, .ofNat 52, .ofNat 53, .ofNat 54, .ofNat 55, .ofNat 56, .ofNat 57, .ofNat 48, .ofNat 49, .ofNat 50, .ofNat 51, .ofNat 52, .ofNat 53, .ofNat 54, .ofNat 55, .ofNat 56, .ofNat 57, .ofNat 48, .ofNat 49, .ofNat 50, .ofNat 51, .ofNat 52, .ofNat 53, .ofNat 54, .ofNat 55, .ofNat 56, .ofNat 57, .ofNat 48, .ofNat 49, .ofNat 50, .ofNat 51, .ofNat 52, .ofNat 53, .ofNat 54, .ofNat 55, .ofNat 56, .ofNat 57, .ofNat 48, .ofNat 49, .ofNat 50, .ofNat 51, .ofNat 52, .ofNat 53, .ofNat 54, .ofNat 55, .ofNat 56, .ofNat 57, .ofNat 48, .ofNat 49, .ofNat 50, .ofNat 51, .ofNat 52, .ofNat 53, .ofNat 54, .ofNat 55, .ofNat 56, .ofNat 57, .ofNat 48, .ofNat 49, .ofNat 50, .ofNat 51, .ofNat 52, .ofNat 53, .ofNat 54, .ofNat 55, .ofNat 56, .ofNat 57, .ofNat 48, .ofNat 49, .ofNat 50, .ofNat 51, .ofNat 52, .ofNat 53, .ofNat 54, .ofNat 55, .ofNat 56, .ofNat 57, .ofNat 48, .ofNat 49, .ofNat 50, .ofNat 51, .ofNat 52, .ofNat 53, .ofNat 54, .ofNat 55, .ofNat 56, .ofNat 57, .ofNat 48, .ofNat 49, .ofNat 50, .ofNat 51, .ofNat 52, .ofNat 53, .ofNat 54, .ofNat 55, .ofNat 56, .ofNat 57, .ofNat 48, .ofNat 49, .ofNat 50, .ofNat 51, .ofNat 52, .ofNat 53, .ofNat 54, .ofNat 55, .ofNat 56, .ofNat 57],
  .str [.chan (some 4098), .chan (some 4099), .chan (some 4100)],
  .str [.int .u8 (.ofNat 49), .int .u8 (.ofNat 48), .int .u8 (.ofNat 46), .int .u8 (.ofNat 48), .int .u8 (.ofNat 46), .int .u8 (.ofNat 48), .int .u8 (.ofNat 46), .chan (some 4098), .chan (some 4099), .chan (some 4100)],
  .str [.int .u8 (.ofNat 49), .int .u8 (.ofNat 48), .int .u8 (.ofNat 46), .int .u8 (.ofNat 48), .int .u8 (.ofNat 46), .int .u8 (.ofNat 48), .int .u8 (.ofNat 46), .chan (some 4098), .chan (some 4099), .chan (some 4100), .int .u8 (.ofNat 32), .int .u8 (.ofNat 111), .int .u8 (.ofNat 116), .int .u8 (.ofNat 104), .int .u8 (.ofNat 101), .int .u8 (.ofNat 114), .int .u8 (.ofNat 10)],
  .str [.int .u8 (.ofNat 49), .int .u8 (.ofNat 48), .int .u8 (.ofNat 46), .int .u8 (.ofNat 48), .int .u8 (.ofNat 46), .int .u8 (.ofNat 48), .int .u8 (.ofNat 46), .chan (some 4098), .chan (some 4099), .chan (some 4100), .int .u8 (.ofNat 32), .int .u8 (.ofNat 104), .int .u8 (.ofNat 10)],
  .str [.int .u8 (.ofNat 49), .int .u8 (.ofNat 48), .int .u8 (.ofNat 46), .int .u8 (.ofNat 48), .int .u8 (.ofNat 46), .int .u8 (.ofNat 48), .int .u8 (.ofNat 46), .chan (some 4098), .chan (some 4099), .chan (some 4100), .int .u8 (.ofNat 32), .int .u8 (.ofNat 104)],
  .ent 34 (.chan (some 4098)) (.int .u8 (.ofNat 0)),
  .ent 34 (.chan (some 4099)) (.int .u8 (.ofNat 0)),
  .ent 34 (.chan (some 4100)) (.int .u8 (.ofNat 0)),
  .str [.int .u8 (.ofNat 48), .int .u8 (.ofNat 46), .int .u8 (.ofNat 48), .int .u8 (.ofNat 46), .chan (some 4098), .chan (some 4099), .chan (some 4100)],
  .str [.int .u8 (.ofNat 48), .int .u8 (.ofNat 46), .chan (some 4098), .chan (some 4099), .chan (some 4100)],
  .ent 1 (.chan (some 4098)) (.int .u8 (.ofNat 48)),
  .ent 39 (.chan (some 4111)) (.int .u8 (.ofNat 0)),
  .ent 1 (.chan (some 4099)) (.int .u8 (.ofNat 48)),
  .ent 2 (.chan (some 4112)) (.int .u64 (.ofNat 10)),
  .ent 39 (.chan (some 4113)) (.int .u8 (.ofNat 0)),
  .ent 0 (.chan (some 4114)) (.chan (some 4115)),
  .ent 1 (.chan (some 4100)) (.int .u8 (.ofNat 48)),
  .ent 2 (.chan (some 4116)) (.int .u64 (.ofNat 10)),
  .ent 39 (.chan (some 4117)) (.int .u8 (.ofNat 0)),
  .ent 0 (.chan (some 4118)) (.chan (some 4119)),
  .idx .i64 (.chan (some 4097)) 100 [.ofNat 7, .ofNat 7, .ofNat 7, .ofNat 7, .ofNat 7, .ofNat 7, .ofNat 7, .ofNat 7, .ofNat 7, .ofNat 7, .ofNat 7, .ofNat 7, .ofNat 7, .ofNat 7, .ofNat 7, .ofNat 7, .ofNat 7, .ofNat 7, .ofNat 7, .ofNat 7, .ofNat 7, .ofNat 7, .ofNat 7, .ofNat 7, .ofNat 7, .ofNat 7, .ofNat 7, .ofNat 7, .ofNat 8, .ofNat 8, .ofNat 8, .ofNat 8, .ofNat 8, .ofNat 8, .ofNat 8, .ofNat 8, .ofNat 8, .ofNat 8, .ofNat 8, .ofNat 8, .ofNat 8, .ofNat 8, .ofNat 8, .ofNat 8, .ofNat 8, .ofNat 8, .ofNat 8, .ofNat 8, .ofNat 8, .ofNat 8, .ofNat 8, .ofNat 8, .ofNat 8, .ofNat 8, .ofNat 8, .ofNat 8, .ofNat 8, .ofNat 8, .ofNat 8, .ofNat 8, .ofNat 8, .ofNat 8, .ofNat 8, .ofNat 8, .ofNat 8, .ofNat 8, .ofNat 8, .ofNat 8, .ofNat 8, .ofNat 8, .ofNat 8, .ofNat 8, .ofNat 8, .ofNat 8, .ofNat 8, .ofNat 8, .ofNat 8, .ofNat 8, .ofNat 8, .ofNat 8, .ofNat 8, .ofNat 8, .ofNat 8, .ofNat 8, .ofNat 8, .ofNat 8, .ofNat 8, .ofNat 8, .ofNat 8, .ofNat 8, .ofNat 8, .ofNat 8, .ofNat 8, .ofNat 8, .ofNat 8, .ofNat 8, .ofNat 8, .ofNat 8, .ofNat 8, .ofNat 8, .ofNat 8, .ofNat 8, .ofNat 8, .ofNat 8, .ofNat 8, .ofNat 8, .ofNat 8, .ofNat 8, .ofNat 8, .ofNat 8, .ofNat 8, .ofNat 8, .ofNat 8, .ofNat 8, .ofNat 8, .ofNat 8, .ofNat 8, .ofNat 8, .ofNat 8, .ofNat 8, .ofNat 8, .ofNat 8, .ofNat 8, .ofNat 8, .ofNat 8, .ofNat 8, .ofNat 8, .ofNat 8, .ofNat 8, .ofNat 8, .ofNat 8, .ofNat 8, .ofNat 8, .ofNat 8, .ofNat 8, .ofNat 8, .ofNat 8, .ofNat 8, .ofNat 8, .ofNat 8, .ofNat 8, .ofNat 8, .ofNat 8, .ofNat 8, .ofNat 8, .ofNat 8, .ofNat 8, .ofNat 8, .ofNat 8, .ofNat 8],
  .ent 2 (.chan (some 4121)) (.int .i64 (.ofNat 78913)),
  .ent 38 (.chan (some 4120)) (.int .u8 (.ofNat 0)),
  .ent 4 (.chan (some 4123)) (.int .u32 (.ofNat 100)),
  .ent 2 (.chan (some 4124)) (.int .u32 (.ofNat 2)),
  .ent 3 (.chan (some 4123)) (.int .u32 (.ofNat 100)),
  .ent 0 (.chan (some 4125)) (.int .u32 (.ofNat 1)),
  .ent 0 (.int .u32 (.ofNat 48)) (.chan (some 4126)),
  .ent 36 (.chan (some 4120)) (.int .u8 (.ofNat 0)),
  .str [.int .u8 (.ofNat 10), .int .u8 (.ofNat 0), .int .u8 (.ofNat 0), .chan (some 4129)],
  .str [.int .u8 (.ofNat 0), .int .u8 (.ofNat 0), .int .u8 (.ofNat 0), .int .u8 (.ofNat 0), .int .u8 (.ofNat 0), .int .u8 (.ofNat 0), .int .u8 (.ofNat 0), .int .u8 (.ofNat 0), .int .u8 (.ofNat 0), .int .u8 (.ofNat 0), .int .u8 (.ofNat 255), .int .u8 (.ofNat 255), .int .u8 (.ofNat 10), .int .u8 (.ofNat 0), .int .u8 (.ofNat 0), .chan (some 4129)],
  .crc [.int .u8 (.ofNat 1), .int .u8 (.ofNat 3), .int .u8 (.ofNat 0), .int .u8 (.ofNat 49), .int .u8 (.ofNat 47), .int .u8 (.ofNat 104), .int .u8 (.ofNat 0), .int .u8 (.ofNat 0), .int .u8 (.ofNat 0), .int .u8 (.ofNat 0), .int .u8 (.ofNat 0), .int .u8 (.ofNat 0), .int .u8 (.ofNat 0), .int .u8 (.ofNat 0), .int .u8 (.ofNat 0), .int .u8 (.ofNat 0), .int .u8 (.ofNat 0), .int .u8 (.ofNat 0), .int .u8 (.ofNat 0), .int .u8 (.ofNat 0), .int .u8 (.ofNat 0), .int .u8 (.ofNat 0), .int .u8 (.ofNat 88), .int .u8 (.ofNat 2), .int .u8 (.ofNat 0), .int .u8 (.ofNat 0), .int .u8 (.ofNat 0), .int .u8 (.ofNat 0), .int .u8 (.ofNat 0), .int .u8 (.ofNat 0), .int .u8 (.ofNat 88), .int .u8 (.ofNat 2), .int .u8 (.ofNat 0), .int .u8 (.ofNat 0), .int .u8 (.ofNat 0), .int .u8 (.ofNat 0), .int .u8 (.ofNat 0), .int .u8 (.ofNat 0), .int .u8 (.ofNat 0), .int .u8 (.ofNat 1), .int .u8 (.ofNat 4), .int .u8 (.ofNat 0), .int .u8 (.ofNat 10), .int .u8 (.ofNat 0), .int .u8 (.ofNat 0), .chan (some 4129), .int .u8 (.ofNat 1), .int .u8 (.ofNat 10), .int .u8 (.ofNat 0), .int .u8 (.ofNat 47), .int .u8 (.ofNat 101), .int .u8 (.ofNat 116), .int .u8 (.ofNat 99), .int .u8 (.ofNat 47), .int .u8 (.ofNat 104), .int .u8 (.ofNat 111), .int .u8 (.ofNat 115), .int .u8 (.ofNat 116), .int .u8 (.ofNat 115), .int .u8 (.ofNat 1), .int .u8 (.ofNat 0), .int .u8 (.ofNat 0), .int .u8 (.ofNat 0), .int .u8 (.ofNat 0), .int .u8 (.ofNat 0), .int .u8 (.ofNat 0), .int .u8 (.ofNat 0)],
  .ent 39 (.chan (some 4132)) (.int .u8 (.ofNat 0)),
  .ent 9 (.chan (some 4133)) (.int .i64 (.ofNat 0)),
  .ent 36 (.chan (some 4134)) (.int .u8 (.ofNat 0)),
  .ent 9 (.chan (some 4133)) (.int .i64 (.ofNat 8)),
  .ent 36 (.chan (some 4136)) (.int .u8 (.ofNat 0)),
  .ent 9 (.chan (some 4133)) (.int .i64 (.ofNat 16)),
  .ent 36 (.chan (some 4138)) (.int .u8 (.ofNat 0)),
  .ent 9 (.chan (some 4133)) (.int .i64 (.ofNat 24)),
  .ent 36 (.chan (some 4140)) (.int .u8 (.ofNat 0))]
noncomputable def tabS : List NInfo := [⟨none, none, []⟩,
  ⟨none, none, []⟩,
  ⟨none, none, [⟨34, .chan (some 4098), .int .u8 (.ofNat 0), .chan (some 4106)⟩, ⟨1, .chan (some 4098), .int .u8 (.ofNat 48), .chan (some 4111)⟩]⟩,
  ⟨none, none, [⟨34, .chan (some 4099), .int .u8 (.ofNat 0), .chan (some 4107)⟩, ⟨1, .chan (some 4099), .int .u8 (.ofNat 48), .chan (some 4113)⟩]⟩,
  ⟨none, none, [⟨34, .chan (some 4100), .int .u8 (.ofNat 0), .chan (some 4108)⟩, ⟨1, .chan (some 4100), .int .u8 (.ofNat 48), .chan (some 4117)⟩]⟩,
  ⟨none, some [.chan (some 4098), .chan (some 4099), .chan (some 4100)], []⟩,
  ⟨none, some [.int .u8 (.ofNat 49), .int .u8 (.ofNat 48), .int .u8 (.ofNat 46), .int .u8 (.ofNat 48), .int .u8 (.ofNat 46), .int .u8 (.ofNat 48), .int .u8 (.ofNat 46), .chan (some 4098), .chan (some 4099), .chan (some 4100)], []⟩,
  ⟨none, some [.int .u8 (.ofNat 49), .int .u8 (.ofNat 48), .int .u8 (.ofNat 46), .int .u8 (.ofNat 48), .int .u8 (.ofNat 46), .int .u8 (.ofNat 48), .int .u8 (.ofNat 46), .chan (some 4098), .chan (some 4099), .chan (some 4100), .int .u8 (.ofNat 32), .int .u8 (.ofNat 111), .int .u8 (.ofNat 116), .int .u8 (.ofNat 104), .int .u8 (.ofNat 101), .int .u8 (.ofNat 114), .int .u8 (.ofNat 10)], []⟩,
  ⟨none, some [.int .u8 (.ofNat 49), .int .u8 (.ofNat 48), .int .u8 (.ofNat 46), .int .u8 (.ofNat 48), .int .u8 (.ofNat 46), .int .u8 (.ofNat 48), .int .u8 (.ofNat 46), .chan (some 4098), .chan (some 4099), .chan (some 4100), .int .u8 (.ofNat 32), .int .u8 (.ofNat 104), .int .u8 (.ofNat 10)], []⟩,
  ⟨none, some [.int .u8 (.ofNat 49), .int .u8 (.ofNat 48), .int .u8 (.ofNat 46), .int .u8 (.ofNat 48), .int .u8 (.ofNat 46), .int .u8 (.ofNat 48), .int .u8 (.ofNat 46), .chan (some 4098), .chan (some 4099), .chan (some 4100), .int .u8 (.ofNat 32), .int .u8 (.ofNat 104)], []⟩,
  ⟨none, none, []⟩,
  ⟨none, none, []⟩,
  ⟨none, none, []⟩,
  ⟨none, some [.int .u8 (.ofNat 48), .int .u8 (.ofNat 46), .int .u8 (.ofNat 48), .int .u8 (.ofNat 46), .chan (some 4098), .chan (some 4099), .chan (some 4100)], []⟩,
  ⟨none, some [.int .u8 (.ofNat 48), .int .u8 (.ofNat 46), .chan (some 4098), .chan (some 4099), .chan (some 4100)], []⟩,
  ⟨none, none, [⟨39, .chan (some 4111), .int .u8 (.ofNat 0), .chan (some 4112)⟩]⟩,
  ⟨none, none, [⟨2, .chan (some 4112), .int .u64 (.ofNat 10), .chan (some 4114)⟩]⟩,
  ⟨none, none, [⟨39, .chan (some 4113), .int .u8 (.ofNat 0), .chan (some 4115)⟩]⟩,
  ⟨none, none, [⟨0, .chan (some 4114), .chan (some 4115), .chan (some 4116)⟩]⟩,
  ⟨none, none, []⟩,
  ⟨none, none, [⟨2, .chan (some 4116), .int .u64 (.ofNat 10), .chan (some 4118)⟩]⟩,
  ⟨none, none, [⟨39, .chan (some 4117), .int .u8 (.ofNat 0), .chan (some 4119)⟩]⟩,
  ⟨none, none, [⟨0, .chan (some 4118), .chan (some 4119), .chan (some 4120)⟩]⟩,
  ⟨none, none, []⟩,
  ⟨none, none, [⟨38, .chan (some 4120), .int .u8 (.ofNat 0), .chan (some 4123)⟩, ⟨36, .chan (some 4120), .int .u8 (.ofNat 0), .chan (some 4129)⟩]⟩,
  ⟨none, none, [⟨2, .chan (some 4121), .int .i64 (.ofNat 78913), .chan (some 4122)⟩]⟩,
  ⟨none, none, []⟩,
  ⟨none, none, [⟨4, .chan (some 4123), .int .u32 (.ofNat 100), .chan (some 4124)⟩, ⟨3, .chan (some 4123), .int .u32 (.ofNat 100), .chan (some 4126)⟩]⟩,
  ⟨none, none, [⟨2, .chan (some 4124), .int .u32 (.ofNat 2), .chan (some 4125)⟩]⟩,
  ⟨none, none, [⟨0, .chan (some 4125), .int .u32 (.ofNat 1), .chan (some 4127)⟩]⟩,
  ⟨none, none, [⟨0, .int .u32 (.ofNat 48), .chan (some 4126), .chan (some 4128)⟩]⟩,
  ⟨none, none, []⟩,
  ⟨none, none, []⟩,
  ⟨none, none, []⟩,
  ⟨none, some [.int .u8 (.ofNat 10), .int .u8 (.ofNat 0), .int .u8 (.ofNat 0), .chan (some 4129)], []⟩,
  ⟨none, some [.int .u8 (.ofNat 0), .int .u8 (.ofNat 0), .int .u8 (.ofNat 0), .int .u8 (.ofNat 0), .int .u8 (.ofNat 0), .int .u8 (.ofNat 0), .int .u8 (.ofNat 0), .int .u8 (.ofNat 0), .int .u8 (.ofNat 0), .int .u8 (.ofNat 0), .int .u8 (.ofNat 255), .int .u8 (.ofNat 255), .int .u8 (.ofNat 10), .int .u8 (.ofNat 0), .int .u8 (.ofNat 0), .chan (some 4129)], []⟩,
  ⟨some (.u32, (.ofNat 0), (.ofNat 4294967295)), none, [⟨39, .chan (some 4132), .int .u8 (.ofNat 0), .chan (some 4133)⟩]⟩,
  ⟨some (.u64, (.ofNat 0), (.ofNat 18446744073709551615)), none, [⟨9, .chan (some 4133), .int .i64 (.ofNat 0), .chan (some 4134)⟩, ⟨9, .chan (some 4133), .int .i64 (.ofNat 8), .chan (some 4136)⟩, ⟨9, .chan (some 4133), .int .i64 (.ofNat 16), .chan (some 4138)⟩, ⟨9, .chan (some 4133), .int .i64 (.ofNat 24), .chan (some 4140)⟩]⟩,
  ⟨some (.u64, (.ofNat 0), (.ofNat 18446744073709551615)), none, [⟨36, .chan (some 4134), .int .u8 (.ofNat 0), .chan (some 4135)⟩]⟩,
  ⟨some (.u8, (.ofNat 0), (.ofNat 255)), none, []⟩,
  ⟨some (.u64, (.ofNat 0), (.ofNat 18446744073709551615)), none, [⟨36, .chan (some 4136), .int .u8 (.ofNat 0), .chan (some 4137)⟩]⟩,
  ⟨some (.u8, (.ofNat 0), (.ofNat 255)), none, []⟩,
  ⟨some (.u64, (.ofNat 0), (.ofNat 18446744073709551615)), none, [⟨36, .chan (some 4138), .int .u8 (.ofNat 0), .chan (some 4139)⟩]⟩,
  ⟨some (.u8, (.ofNat 0), (.ofNat 255)), none, []⟩,
  ⟨some (.u64, (.ofNat 0), (.ofNat 18446744073709551615)), none, [⟨36, .chan (some 4140), .int .u8 (.ofNat 0), .chan (some 4141)⟩]⟩,
  ⟨some (.u8, (.ofNat 0), (.ofNat 255)), none, []⟩]
noncomputable def tab0 : List NInfo := [⟨none, none, []⟩,
  ⟨some (.i64, (.ofNat 100), (.ofNat 249)), none, []⟩,
  ⟨some (.u8, (.ofNat 49), (.ofNat 50)), none, []⟩,
  ⟨some (.u8, (.ofNat 48), (.ofNat 57)), none, []⟩,
  ⟨some (.u8, (.ofNat 48), (.ofNat 57)), none, []⟩,
  ⟨none, none, []⟩,
  ⟨none, none, []⟩,
  ⟨none, none, []⟩,
  ⟨none, none, []⟩,
  ⟨none, none, []⟩,
  ⟨some (.i32, (.ofNat 49), (.ofNat 50)), none, []⟩,
  ⟨some (.i32, (.ofNat 48), (.ofNat 57)), none, []⟩,
  ⟨some (.i32, (.ofNat 48), (.ofNat 57)), none, []⟩,
  ⟨none, none, []⟩,
  ⟨none, none, []⟩,
  ⟨some (.u8, (.ofNat 1), (.ofNat 2)), none, []⟩,
  ⟨some (.u64, (.ofNat 1), (.ofNat 2)), none, [⟨0, .int .u64 (.ofNat 0), .chan (some 4112), .chan (some 4112)⟩]⟩,
  ⟨some (.u8, (.ofNat 0), (.ofNat 9)), none, []⟩,
  ⟨some (.u64, (.ofNat 10), (.ofNat 20)), none, []⟩,
  ⟨some (.u64, (.ofNat 0), (.ofNat 9)), none, []⟩,
  ⟨some (.u64, (.ofNat 10), (.ofNat 24)), none, [⟨13, .chan (some 4116), .chan (some 4114), .bool false⟩]⟩,
  ⟨some (.u8, (.ofNat 0), (.ofNat 9)), none, []⟩,
  ⟨some (.u64, (.ofNat 100), (.ofNat 240)), none, []⟩,
  ⟨some (.u64, (.ofNat 0), (.ofNat 9)), none, []⟩,
  ⟨some (.u64, (.ofNat 100), (.ofNat 249)), none, [⟨13, .chan (some 4120), .chan (some 4118), .bool false⟩]⟩,
  ⟨some (.i64, (.ofNat 7), (.ofNat 8)), none, []⟩,
  ⟨some (.i64, (.ofNat 552391), (.ofNat 631304)), none, [⟨9, .chan (some 4122), .int .u64 (.ofNat 18), .int .i64 (.ofNat 2)⟩]⟩,
  ⟨some (.u32, (.ofNat 100), (.ofNat 249)), none, []⟩,
  ⟨some (.u32, (.ofNat 0), (.ofNat 99)), none, []⟩,
  ⟨some (.u32, (.ofNat 0), (.ofNat 198)), none, [⟨70, .chan (some 4125), .string ⟨⟨[48, 48, 48, 49, 48, 50, 48, 51, 48, 52, 48, 53, 48, 54, 48, 55, 48, 56, 48, 57, 49, 48, 49, 49, 49, 50, 49, 51, 49, 52, 49, 53, 49, 54, 49, 55, 49, 56, 49, 57, 50, 48, 50, 49, 50, 50, 50, 51, 50, 52, 50, 53, 50, 54, 50, 55, 50, 56, 50, 57, 51, 48, 51, 49, 51, 50, 51, 51, 51, 52, 51, 53, 51, 54, 51, 55, 51, 56, 51, 57, 52, 48, 52, 49, 52, 50, 52, 51, 52, 52, 52, 53, 52, 54, 52, 55, 52, 56, 52, 57, 53, 48, 53, 49, 53, 50, 53, 51, 53, 52, 53, 53, 53, 54, 53, 55, 53, 56, 53, 57, 54, 48, 54, 49, 54, 50, 54, 51, 54, 52, 54, 53, 54, 54, 54, 55, 54, 56, 54, 57, 55, 48, 55, 49, 55, 50, 55, 51, 55, 52, 55, 53, 55, 54, 55, 55, 55, 56, 55, 57, 56, 48, 56, 49, 56, 50, 56, 51, 56, 52, 56, 53, 56, 54, 56, 55, 56, 56, 56, 57, 57, 48, 57, 49, 57, 50, 57, 51, 57, 52, 57, 53, 57, 54, 57, 55, 57, 56, 57, 57]⟩⟩, .chan (some 4099)⟩]⟩,
  ⟨some (.u32, (.ofNat 1), (.ofNat 2)), none, []⟩,
  ⟨some (.u32, (.ofNat 1), (.ofNat 199)), none, [⟨70, .chan (some 4127), .string ⟨⟨[48, 48, 48, 49, 48, 50, 48, 51, 48, 52, 48, 53, 48, 54, 48, 55, 48, 56, 48, 57, 49, 48, 49, 49, 49, 50, 49, 51, 49, 52, 49, 53, 49, 54, 49, 55, 49, 56, 49, 57, 50, 48, 50, 49, 50, 50, 50, 51, 50, 52, 50, 53, 50, 54, 50, 55, 50, 56, 50, 57, 51, 48, 51, 49, 51, 50, 51, 51, 51, 52, 51, 53, 51, 54, 51, 55, 51, 56, 51, 57, 52, 48, 52, 49, 52, 50, 52, 51, 52, 52, 52, 53, 52, 54, 52, 55, 52, 56, 52, 57, 53, 48, 53, 49, 53, 50, 53, 51, 53, 52, 53, 53, 53, 54, 53, 55, 53, 56, 53, 57, 54, 48, 54, 49, 54, 50, 54, 51, 54, 52, 54, 53, 54, 54, 54, 55, 54, 56, 54, 57, 55, 48, 55, 49, 55, 50, 55, 51, 55, 52, 55, 53, 55, 54, 55, 55, 55, 56, 55, 57, 56, 48, 56, 49, 56, 50, 56, 51, 56, 52, 56, 53, 56, 54, 56, 55, 56, 56, 56, 57, 57, 48, 57, 49, 57, 50, 57, 51, 57, 52, 57, 53, 57, 54, 57, 55, 57, 56, 57, 57]⟩⟩, .chan (some 4100)⟩]⟩,
  ⟨some (.u32, (.ofNat 49), (.ofNat 50)), none, [⟨36, .chan (some 4128), .int .u8 (.ofNat 0), .chan (some 4098)⟩]⟩,
  ⟨some (.u8, (.ofNat 100), (.ofNat 249)), none, []⟩,
  ⟨none, none, []⟩,
  ⟨none, none, []⟩,
  ⟨none, none, []⟩,
  ⟨none, none, []⟩,
  ⟨none, none, []⟩,
  ⟨none, none, []⟩,
  ⟨none, none, []⟩,
  ⟨none, none, []⟩,
  ⟨none, none, []⟩,
  ⟨none, none, []⟩,
  ⟨none, none, []⟩,
  ⟨none, none, []⟩]
noncomputable def tab : List NInfo := (unionT tabS tab0)
noncomputable def crcs : List (List Value × Value) := [([.int .u8 (.ofNat 1), .int .u8 (.ofNat 3), .int .u8 (.ofNat 0), .int .u8 (.ofNat 49), .int .u8 (.ofNat 47), .int .u8 (.ofNat 104), .int .u8 (.ofNat 0), .int .u8 (.ofNat 0), .int .u8 (.ofNat 0), .int .u8 (.ofNat 0), .int .u8 (.ofNat 0), .int .u8 (.ofNat 0), .int .u8 (.ofNat 0), .int .u8 (.ofNat 0), .int .u8 (.ofNat 0), .int .u8 (.ofNat 0), .int .u8 (.ofNat 0), .int .u8 (.ofNat 0), .int .u8 (.ofNat 0), .int .u8 (.ofNat 0), .int .u8 (.ofNat 0), .int .u8 (.ofNat 0), .int .u8 (.ofNat 88), .int .u8 (.ofNat 2), .int .u8 (.ofNat 0), .int .u8 (.ofNat 0), .int .u8 (.ofNat 0), .int .u8 (.ofNat 0), .int .u8 (.ofNat 0), .int .u8 (.ofNat 0), .int .u8 (.ofNat 88), .int .u8 (.ofNat 2), .int .u8 (.ofNat 0), .int .u8 (.ofNat 0), .int .u8 (.ofNat 0), .int .u8 (.ofNat 0), .int .u8 (.ofNat 0), .int .u8 (.ofNat 0), .int .u8 (.ofNat 0), .int .u8 (.ofNat 1), .int .u8 (.ofNat 4), .int .u8 (.ofNat 0), .int .u8 (.ofNat 10), .int .u8 (.ofNat 0), .int .u8 (.ofNat 0), .chan (some 4129), .int .u8 (.ofNat 1), .int .u8 (.ofNat 10), .int .u8 (.ofNat 0), .int .u8 (.ofNat 47), .int .u8 (.ofNat 101), .int .u8 (.ofNat 116), .int .u8 (.ofNat 99), .int .u8 (.ofNat 47), .int .u8 (.ofNat 104), .int .u8 (.ofNat 111), .int .u8 (.ofNat 115), .int .u8 (.ofNat 116), .int .u8 (.ofNat 115), .int .u8 (.ofNat 1), .int .u8 (.ofNat 0), .int .u8 (.ofNat 0), .int .u8 (.ofNat 0), .int .u8 (.ofNat 0), .int .u8 (.ofNat 0), .int .u8 (.ofNat 0), .int .u8 (.ofNat 0)], .chan (some 4132))]
noncomputable abbrev base (a0 : Int) (x0 : Nat) : List Value := [.int .i64 a0, .int .i64 (.ofNat x0)]
noncomputable abbrev G (a0 : Int) (x0 : Nat) : Sym := symL (mkVals ds (base a0 x0))
set_option maxRecDepth 100000 in
theorem refs_ok : refsAll ds 2 = true := by kernel_rfl
set_option maxRecDepth 100000 in
theorem nam_ok : namDs ds = true := by kernel_rfl
set_option maxRecDepth 100000 in
theorem len_ok : Nat.ble tab.length 4096 = true := by kernel_rfl
set_option maxRecDepth 100000 in
theorem crcs_ok : crcsB ds 2 crcs = true := by kernel_rfl
set_option maxRecDepth 100000 in
theorem sym_ok : symTab (ksOf ds [none, some .i64]) ds 2 tabS 0 = true := by kernel_rfl
set_option maxRecDepth 100000 in
theorem tab0_all (a0 : Int) : allB 150 (fun i0 => tabB (G a0 (100 + i0)) tab0 0) = true := by kernel_rfl
theorem tab0_ok (a0 : Int) (x0 : Nat) (h0 : 100 ≤ x0 ∧ x0 < 250) : TabOk (G a0 x0) tab0 := by
  have h := (allB_spec (tab0_all a0 ) (x0 - 100) (by omega))
  rw [show 100 + (x0 - 100) = x0 by omega] at h
  exact tabB_part h
theorem kinv (a0 : Int) (x0 : Nat) (h0 : 100 ≤ x0 ∧ x0 < 250) : KInv (symL (base a0 x0)) [none, some .i64] := by
  intro i k hi
  match i, hi with
  | 0, hi => cases hi
  | 1, hi => cases hi; exact ⟨.ofNat x0, rfl, by rw [inK_iff]; show (-9223372036854775808 : Int) ≤ (x0 : Int) ∧ (x0 : Int) ≤ 9223372036854775807; omega⟩
  | n + 2, hi => cases hi
theorem named_ok (a0 : Int) (x0 : Nat) (i : Nat) : named (G a0 x0 i) := symL_named' (mkVals_named (by intro v hv; simp only [base, List.mem_cons, List.not_mem_nil, or_false] at hv; rcases hv with rfl | rfl <;> trivial) nam_ok) i
theorem names_ok (a0 : Int) (x0 : Nat) (h0 : 100 ≤ x0 ∧ x0 < 250) : NamesOk (G a0 x0) (Names.ofL tab) := namesOk_parts (named_ok a0 x0) len_ok (TabOk.union (symTab_part (l := base a0 x0) rfl (kinv a0 x0 h0) refs_ok sym_ok) (tab0_ok a0 x0 h0 ))
theorem crc_ok (a0 : Int) (x0 : Nat) : CrcOk (G a0 x0) crcs := crcsB_ok (l := base a0 x0) refs_ok crcs_ok
theorem gb0 (a0 : Int) (x0 : Nat) : G a0 x0 (4096 - 4096) = .int .i64 a0 := by
  show symL (mkVals ds (base a0 x0)) 0 = _
  rw [symL_low ds (base a0 x0) 0 (by simp)]
  rfl
theorem gb1 (a0 : Int) (x0 : Nat) : G a0 x0 (4097 - 4096) = .int .i64 (.ofNat x0) := by
  show symL (mkVals ds (base a0 x0)) 1 = _
  rw [symL_low ds (base a0 x0) 1 (by simp)]
  rfl
noncomputable def pargs0 : List Value := [.chan (some 4097)]
noncomputable def pres0 : Value := .chan (some 4101)
noncomputable def pargs1 : List Value := [.chan (some 4120)]
noncomputable def pres1 : Value := .chan (some 4121)
end Go.Proofs.YtpficieiefgbfaaGreatDoor.topremoved.d3t
