/- The law TopLife: names by classes of its inputs, their makings, their tables, and the check of these. -/
import Derived.Test.YtemmgompegkgkaaGreatDoorVH
import Derived.Test.YtemmgompegkgkaaGreatDoorTB
import Derived.KernelRfl
namespace Go.Proofs.YtemmgompegkgkaaGreatDoor.toplife
open Go Vai
noncomputable abbrev z0w0 : List Value := [bn 1, bn 6, bn 0, bn 50, bn 47, bn 10, bn 0, bn 0, bn 1, bn 0, bn 0, bn 0, bn 0, bn 0, bn 0, bn 0, bn 0, bn 0, bn 0, bn 0, bn 0, bn 0, bn 0, bn 0, bn 0, cn 4100, cn 4102, cn 4104, bn 0, bn 0, bn 0, bn 0, bn 0, cn 4100, cn 4102, cn 4104, bn 0, bn 0, bn 0, bn 0, bn 0, bn 1, bn 1, bn 0, bn 110, bn 0, bn 0]
noncomputable abbrev z0w1 : List Value := [bn 1, bn 6, bn 0, bn 50, bn 47, bn 10, bn 0, bn 0, bn 1, bn 0, bn 0, bn 0, bn 0, bn 0, bn 0, bn 0, bn 0, bn 0, bn 0, bn 0, bn 0, bn 0, bn 0, bn 0, bn 0, cn 4099, cn 4101, cn 4103, bn 0, bn 0, bn 0, bn 0, bn 0, cn 4099, cn 4101, cn 4103, bn 0, bn 0, bn 0, bn 0, bn 0, bn 1, bn 1, bn 0, bn 110, bn 0, bn 0]
noncomputable abbrev z0w2 : List Value := [bn 1, bn 6, bn 0, bn 50, bn 47, bn 10, bn 0, bn 0, bn 1, bn 0, bn 0, bn 0, bn 0, bn 0, bn 0, bn 0, bn 0, bn 0, bn 0, bn 0, bn 0, bn 0, bn 0, bn 0, bn 0, cn 4100, cn 4102, cn 4104, bn 0, bn 0, bn 0, bn 0, bn 0, cn 4117, cn 4119, cn 4121, bn 0, bn 0, bn 0, bn 0, bn 0, bn 1, bn 1, bn 0, bn 110, bn 0, bn 0]
noncomputable abbrev z0w3 : List Value := [bn 1, bn 6, bn 0, bn 50, bn 47, bn 10, bn 0, bn 0, bn 1, bn 0, bn 0, bn 0, bn 0, bn 0, bn 0, bn 0, bn 0, bn 0, bn 0, bn 0, bn 0, bn 0, bn 0, bn 0, bn 0, bn 128, bn 81, bn 1, bn 0, bn 0, bn 0, bn 0, bn 0, cn 4101, cn 4103, bn 2, bn 0, bn 0, bn 0, bn 0, bn 0, bn 1, bn 1, bn 0, bn 110, bn 0, bn 0]
end Go.Proofs.YtemmgompegkgkaaGreatDoor.toplife
namespace Go.Proofs.YtemmgompegkgkaaGreatDoor.toplife.n0
open Go Vai
set_option linter.unusedVariables false
set_option linter.unusedSimpArgs false
noncomputable def ds : List NDef := []
noncomputable def tabH : List NInfo := [⟨some (.i64, (.negSucc 9223372036854775807), (.negSucc 0)), none, [⟨14, cn 4096, cn 4096, .bool true⟩]⟩,
  z0]
noncomputable def tab : List NInfo := tabH
noncomputable def crcs : List (List Value × Value) := []
noncomputable abbrev base (a0 : Int) (a1 : Int) : List Value := [.int .i64 a0, .int .i64 a1]
noncomputable abbrev G (a0 : Int) (a1 : Int) : Sym := symL (mkVals ds (base a0 a1 ))
set_option maxRecDepth 100000 in
theorem refs_ok : refsAll ds 2 = true := by kernel_rfl
set_option maxRecDepth 100000 in
theorem nam_ok : namDs ds = true := by kernel_rfl
set_option maxRecDepth 100000 in
theorem len_ok : Nat.ble tab.length 4096 = true := by kernel_rfl
set_option maxRecDepth 100000 in
theorem crcs_ok : crcsB ds 2 crcs = true := by kernel_rfl
theorem gb0 (a0 : Int) (a1 : Int) : G a0 a1  (4096 - 4096) = .int .i64 a0 := by
  show symL (mkVals ds (base a0 a1 )) 0 = _
  rw [symL_low ds (base a0 a1 ) 0 (by simp)]
  rfl
theorem gb1 (a0 : Int) (a1 : Int) : G a0 a1  (4097 - 4096) = .int .i64 a1 := by
  show symL (mkVals ds (base a0 a1 )) 1 = _
  rw [symL_low ds (base a0 a1 ) 1 (by simp)]
  rfl
theorem tabH_0 (a0 : Int) (a1 : Int) (w0 : -9223372036854775808 ≤ a0 ∧ a0 ≤ 9223372036854775807) (w1 : -9223372036854775808 ≤ a1 ∧ a1 ≤ 9223372036854775807) (n0 : a0 < 0) : InfoOk (G a0 a1 ) 0 ⟨some (.i64, (.negSucc 9223372036854775807), (.negSucc 0)), none, [⟨14, cn 4096, cn 4096, .bool true⟩]⟩ := (infoOk_cons rfl rfl rfl (by rw [gv_chan 4096, gb0 a0 a1 ]; exact e_leq .i64 a0 a0 true (decide_eq_true (by first | (simp only [Int.ofNat_eq_natCast, ne_eq]; omega) | omega | simp))) (infoOk_rng (gb0 a0 a1 ) (by omega) (by omega)))
theorem tabH_ok (a0 : Int) (a1 : Int) (w0 : -9223372036854775808 ≤ a0 ∧ a0 ≤ 9223372036854775807) (w1 : -9223372036854775808 ≤ a1 ∧ a1 ≤ 9223372036854775807) (n0 : a0 < 0) : TabOk (G a0 a1 ) tabH := by
  intro j f hf
  match j, hf with
  | 0, hf => obtain rfl := Option.some.inj (show some (⟨some (.i64, (.negSucc 9223372036854775807), (.negSucc 0)), none, [⟨14, cn 4096, cn 4096, .bool true⟩]⟩ : NInfo) = some f from hf); exact tabH_0 a0 a1    w0 w1 n0
  | 1, hf => obtain rfl := Option.some.inj (show some (z0 : NInfo) = some f from hf); exact infoOk_nil
  | n + 2, hf => exact absurd hf (by simp [tabH])
theorem kinv (a0 : Int) (a1 : Int) (w0 : -9223372036854775808 ≤ a0 ∧ a0 ≤ 9223372036854775807) (w1 : -9223372036854775808 ≤ a1 ∧ a1 ≤ 9223372036854775807) : KInv (symL (base a0 a1 )) [some .i64, some .i64] := by
  intro i k hi
  match i, hi with
  | 0, hi => cases hi; exact ⟨a0, rfl, by rw [inK_iff]; exact w0⟩
  | 1, hi => cases hi; exact ⟨a1, rfl, by rw [inK_iff]; exact w1⟩
  | n + 2, hi => cases hi
theorem named_ok (a0 : Int) (a1 : Int) (i : Nat) : named (G a0 a1  i) := symL_named' (mkVals_named (by intro v hv; simp only [base, List.mem_cons, List.not_mem_nil, or_false] at hv; rcases hv with rfl | rfl <;> trivial) nam_ok) i
theorem names_ok (a0 : Int) (a1 : Int) (w0 : -9223372036854775808 ≤ a0 ∧ a0 ≤ 9223372036854775807) (w1 : -9223372036854775808 ≤ a1 ∧ a1 ≤ 9223372036854775807) (n0 : a0 < 0) : NamesOk (G a0 a1 ) (Names.ofL tab) := namesOk_parts (named_ok a0 a1 ) len_ok (tabH_ok a0 a1    w0 w1 n0)
theorem crc_ok (a0 : Int) (a1 : Int) : CrcOk (G a0 a1 ) crcs := crcsB_ok (l := base a0 a1 ) refs_ok crcs_ok
end Go.Proofs.YtemmgompegkgkaaGreatDoor.toplife.n0
namespace Go.Proofs.YtemmgompegkgkaaGreatDoor.toplife.n1
open Go Vai
set_option linter.unusedVariables false
set_option linter.unusedSimpArgs false
noncomputable def ds : List NDef := []
noncomputable def tabH : List NInfo := [⟨some (.i64, (.negSucc 9223372036854775807), (.negSucc 0)), none, [⟨14, cn 4096, cn 4096, .bool true⟩]⟩,
  z0,
  ⟨some (.i64, (.ofNat 1), (.ofNat 99999)), none, [⟨0, jn 0, cn 4098, cn 4098⟩]⟩]
noncomputable def tab : List NInfo := tabH
noncomputable def crcs : List (List Value × Value) := []
noncomputable abbrev base (a0 : Int) (a1 : Int) (x0 : Nat) : List Value := [.int .i64 a0, .int .i64 a1, .int .i64 (.ofNat x0)]
noncomputable abbrev G (a0 : Int) (a1 : Int) (x0 : Nat) : Sym := symL (mkVals ds (base a0 a1 x0))
set_option maxRecDepth 100000 in
theorem refs_ok : refsAll ds 3 = true := by kernel_rfl
set_option maxRecDepth 100000 in
theorem nam_ok : namDs ds = true := by kernel_rfl
set_option maxRecDepth 100000 in
theorem len_ok : Nat.ble tab.length 4096 = true := by kernel_rfl
set_option maxRecDepth 100000 in
theorem crcs_ok : crcsB ds 3 crcs = true := by kernel_rfl
theorem gb0 (a0 : Int) (a1 : Int) (x0 : Nat) : G a0 a1 x0 (4096 - 4096) = .int .i64 a0 := by
  show symL (mkVals ds (base a0 a1 x0)) 0 = _
  rw [symL_low ds (base a0 a1 x0) 0 (by simp)]
  rfl
theorem gb1 (a0 : Int) (a1 : Int) (x0 : Nat) : G a0 a1 x0 (4097 - 4096) = .int .i64 a1 := by
  show symL (mkVals ds (base a0 a1 x0)) 1 = _
  rw [symL_low ds (base a0 a1 x0) 1 (by simp)]
  rfl
theorem gb2 (a0 : Int) (a1 : Int) (x0 : Nat) : G a0 a1 x0 (4098 - 4096) = .int .i64 (.ofNat x0) := by
  show symL (mkVals ds (base a0 a1 x0)) 2 = _
  rw [symL_low ds (base a0 a1 x0) 2 (by simp)]
  rfl
theorem tabH_0 (a0 : Int) (a1 : Int) (x0 : Nat) (h0 : 1 ≤ x0 ∧ x0 < 100000) (w0 : -9223372036854775808 ≤ a0 ∧ a0 ≤ 9223372036854775807) (w1 : -9223372036854775808 ≤ a1 ∧ a1 ≤ 9223372036854775807) (n0 : a0 < 0) : InfoOk (G a0 a1 x0) 0 ⟨some (.i64, (.negSucc 9223372036854775807), (.negSucc 0)), none, [⟨14, cn 4096, cn 4096, .bool true⟩]⟩ := (infoOk_cons rfl rfl rfl (by rw [gv_chan 4096, gb0 a0 a1 x0]; exact e_leq .i64 a0 a0 true (decide_eq_true (by first | (simp only [Int.ofNat_eq_natCast, ne_eq]; omega) | omega | simp))) (infoOk_rng (gb0 a0 a1 x0) (by omega) (by omega)))
theorem tabH_2 (a0 : Int) (a1 : Int) (x0 : Nat) (h0 : 1 ≤ x0 ∧ x0 < 100000) (w0 : -9223372036854775808 ≤ a0 ∧ a0 ≤ 9223372036854775807) (w1 : -9223372036854775808 ≤ a1 ∧ a1 ≤ 9223372036854775807) (n0 : a0 < 0) : InfoOk (G a0 a1 x0) 2 ⟨some (.i64, (.ofNat 1), (.ofNat 99999)), none, [⟨0, jn 0, cn 4098, cn 4098⟩]⟩ := (infoOk_cons rfl rfl rfl (by rw [gv_chan 4098, gb2 a0 a1 x0]; exact e_add .i64 0 x0 x0 (by omega) (by show _ ≤ _; simp only [posMax]; omega)) (infoOk_rng (gb2 a0 a1 x0) (by simp only [Int.ofNat_eq_natCast]; omega) (by simp only [Int.ofNat_eq_natCast]; omega)))
theorem tabH_ok (a0 : Int) (a1 : Int) (x0 : Nat) (h0 : 1 ≤ x0 ∧ x0 < 100000) (w0 : -9223372036854775808 ≤ a0 ∧ a0 ≤ 9223372036854775807) (w1 : -9223372036854775808 ≤ a1 ∧ a1 ≤ 9223372036854775807) (n0 : a0 < 0) : TabOk (G a0 a1 x0) tabH := by
  intro j f hf
  match j, hf with
  | 0, hf => obtain rfl := Option.some.inj (show some (⟨some (.i64, (.negSucc 9223372036854775807), (.negSucc 0)), none, [⟨14, cn 4096, cn 4096, .bool true⟩]⟩ : NInfo) = some f from hf); exact tabH_0 a0 a1 x0 h0  w0 w1 n0
  | 1, hf => obtain rfl := Option.some.inj (show some (z0 : NInfo) = some f from hf); exact infoOk_nil
  | 2, hf => obtain rfl := Option.some.inj (show some (⟨some (.i64, (.ofNat 1), (.ofNat 99999)), none, [⟨0, jn 0, cn 4098, cn 4098⟩]⟩ : NInfo) = some f from hf); exact tabH_2 a0 a1 x0 h0  w0 w1 n0
  | n + 3, hf => exact absurd hf (by simp [tabH])
theorem kinv (a0 : Int) (a1 : Int) (x0 : Nat) (h0 : 1 ≤ x0 ∧ x0 < 100000) (w0 : -9223372036854775808 ≤ a0 ∧ a0 ≤ 9223372036854775807) (w1 : -9223372036854775808 ≤ a1 ∧ a1 ≤ 9223372036854775807) : KInv (symL (base a0 a1 x0)) [some .i64, some .i64, some .i64] := by
  intro i k hi
  match i, hi with
  | 0, hi => cases hi; exact ⟨a0, rfl, by rw [inK_iff]; exact w0⟩
  | 1, hi => cases hi; exact ⟨a1, rfl, by rw [inK_iff]; exact w1⟩
  | 2, hi => cases hi; exact ⟨.ofNat x0, rfl, by rw [inK_iff]; show (-9223372036854775808 : Int) ≤ (x0 : Int) ∧ (x0 : Int) ≤ 9223372036854775807; omega⟩
  | n + 3, hi => cases hi
theorem named_ok (a0 : Int) (a1 : Int) (x0 : Nat) (i : Nat) : named (G a0 a1 x0 i) := symL_named' (mkVals_named (by intro v hv; simp only [base, List.mem_cons, List.not_mem_nil, or_false] at hv; rcases hv with rfl | rfl | rfl <;> trivial) nam_ok) i
theorem names_ok (a0 : Int) (a1 : Int) (x0 : Nat) (h0 : 1 ≤ x0 ∧ x0 < 100000) (w0 : -9223372036854775808 ≤ a0 ∧ a0 ≤ 9223372036854775807) (w1 : -9223372036854775808 ≤ a1 ∧ a1 ≤ 9223372036854775807) (n0 : a0 < 0) : NamesOk (G a0 a1 x0) (Names.ofL tab) := namesOk_parts (named_ok a0 a1 x0) len_ok (tabH_ok a0 a1 x0 h0  w0 w1 n0)
theorem crc_ok (a0 : Int) (a1 : Int) (x0 : Nat) : CrcOk (G a0 a1 x0) crcs := crcsB_ok (l := base a0 a1 x0) refs_ok crcs_ok
end Go.Proofs.YtemmgompegkgkaaGreatDoor.toplife.n1
namespace Go.Proofs.YtemmgompegkgkaaGreatDoor.toplife.z0
open Go Vai
set_option linter.unusedVariables false
set_option linter.unusedSimpArgs false
noncomputable def ds : List NDef := []
noncomputable def tabS : List NInfo := [z0,
  z0]
noncomputable def tab : List NInfo := tabS
noncomputable def crcs : List (List Value × Value) := []
noncomputable abbrev base (a0 : Int) (a1 : Int) : List Value := [.int .i64 a0, .int .i64 a1]
noncomputable abbrev G (a0 : Int) (a1 : Int) : Sym := symL (mkVals ds (base a0 a1 ))
set_option maxRecDepth 100000 in
theorem refs_ok : refsAll ds 2 = true := by kernel_rfl
set_option maxRecDepth 100000 in
theorem nam_ok : namDs ds = true := by kernel_rfl
set_option maxRecDepth 100000 in
theorem len_ok : Nat.ble tab.length 4096 = true := by kernel_rfl
set_option maxRecDepth 100000 in
theorem crcs_ok : crcsB ds 2 crcs = true := by kernel_rfl
set_option maxRecDepth 100000 in
theorem sym_ok : symTab (ksOf ds [some .i64, some .i64]) ds 2 tabS 0 = true := by kernel_rfl
theorem gb0 (a0 : Int) (a1 : Int) : G a0 a1  (4096 - 4096) = .int .i64 a0 := by
  show symL (mkVals ds (base a0 a1 )) 0 = _
  rw [symL_low ds (base a0 a1 ) 0 (by simp)]
  rfl
theorem gb1 (a0 : Int) (a1 : Int) : G a0 a1  (4097 - 4096) = .int .i64 a1 := by
  show symL (mkVals ds (base a0 a1 )) 1 = _
  rw [symL_low ds (base a0 a1 ) 1 (by simp)]
  rfl
theorem kinv (a0 : Int) (a1 : Int) (w0 : -9223372036854775808 ≤ a0 ∧ a0 ≤ 9223372036854775807) (w1 : -9223372036854775808 ≤ a1 ∧ a1 ≤ 9223372036854775807) : KInv (symL (base a0 a1 )) [some .i64, some .i64] := by
  intro i k hi
  match i, hi with
  | 0, hi => cases hi; exact ⟨a0, rfl, by rw [inK_iff]; exact w0⟩
  | 1, hi => cases hi; exact ⟨a1, rfl, by rw [inK_iff]; exact w1⟩
  | n + 2, hi => cases hi
theorem named_ok (a0 : Int) (a1 : Int) (i : Nat) : named (G a0 a1  i) := symL_named' (mkVals_named (by intro v hv; simp only [base, List.mem_cons, List.not_mem_nil, or_false] at hv; rcases hv with rfl | rfl <;> trivial) nam_ok) i
theorem names_ok (a0 : Int) (a1 : Int) (w0 : -9223372036854775808 ≤ a0 ∧ a0 ≤ 9223372036854775807) (w1 : -9223372036854775808 ≤ a1 ∧ a1 ≤ 9223372036854775807) : NamesOk (G a0 a1 ) (Names.ofL tab) := namesOk_parts (named_ok a0 a1 ) len_ok (symTab_part (l := base a0 a1 ) rfl (kinv a0 a1   w0 w1) refs_ok sym_ok)
theorem crc_ok (a0 : Int) (a1 : Int) : CrcOk (G a0 a1 ) crcs := crcsB_ok (l := base a0 a1 ) refs_ok crcs_ok
end Go.Proofs.YtemmgompegkgkaaGreatDoor.toplife.z0
namespace Go.Proofs.YtemmgompegkgkaaGreatDoor.toplife.z1
open Go Vai
set_option linter.unusedVariables false
set_option linter.unusedSimpArgs false
noncomputable def ds : List NDef := []
noncomputable def tabH : List NInfo := [z0,
  z0,
  ⟨some (.i64, (.ofNat 1), (.ofNat 99999)), none, [⟨0, jn 0, cn 4098, cn 4098⟩]⟩]
noncomputable def tab : List NInfo := tabH
noncomputable def crcs : List (List Value × Value) := []
noncomputable abbrev base (a0 : Int) (a1 : Int) (x0 : Nat) : List Value := [.int .i64 a0, .int .i64 a1, .int .i64 (.ofNat x0)]
noncomputable abbrev G (a0 : Int) (a1 : Int) (x0 : Nat) : Sym := symL (mkVals ds (base a0 a1 x0))
set_option maxRecDepth 100000 in
theorem refs_ok : refsAll ds 3 = true := by kernel_rfl
set_option maxRecDepth 100000 in
theorem nam_ok : namDs ds = true := by kernel_rfl
set_option maxRecDepth 100000 in
theorem len_ok : Nat.ble tab.length 4096 = true := by kernel_rfl
set_option maxRecDepth 100000 in
theorem crcs_ok : crcsB ds 3 crcs = true := by kernel_rfl
theorem gb0 (a0 : Int) (a1 : Int) (x0 : Nat) : G a0 a1 x0 (4096 - 4096) = .int .i64 a0 := by
  show symL (mkVals ds (base a0 a1 x0)) 0 = _
  rw [symL_low ds (base a0 a1 x0) 0 (by simp)]
  rfl
theorem gb1 (a0 : Int) (a1 : Int) (x0 : Nat) : G a0 a1 x0 (4097 - 4096) = .int .i64 a1 := by
  show symL (mkVals ds (base a0 a1 x0)) 1 = _
  rw [symL_low ds (base a0 a1 x0) 1 (by simp)]
  rfl
theorem gb2 (a0 : Int) (a1 : Int) (x0 : Nat) : G a0 a1 x0 (4098 - 4096) = .int .i64 (.ofNat x0) := by
  show symL (mkVals ds (base a0 a1 x0)) 2 = _
  rw [symL_low ds (base a0 a1 x0) 2 (by simp)]
  rfl
theorem tabH_2 (a0 : Int) (a1 : Int) (x0 : Nat) (h0 : 1 ≤ x0 ∧ x0 < 100000) (w0 : -9223372036854775808 ≤ a0 ∧ a0 ≤ 9223372036854775807) (w1 : -9223372036854775808 ≤ a1 ∧ a1 ≤ 9223372036854775807) : InfoOk (G a0 a1 x0) 2 ⟨some (.i64, (.ofNat 1), (.ofNat 99999)), none, [⟨0, jn 0, cn 4098, cn 4098⟩]⟩ := (infoOk_cons rfl rfl rfl (by rw [gv_chan 4098, gb2 a0 a1 x0]; exact e_add .i64 0 x0 x0 (by omega) (by show _ ≤ _; simp only [posMax]; omega)) (infoOk_rng (gb2 a0 a1 x0) (by simp only [Int.ofNat_eq_natCast]; omega) (by simp only [Int.ofNat_eq_natCast]; omega)))
theorem tabH_ok (a0 : Int) (a1 : Int) (x0 : Nat) (h0 : 1 ≤ x0 ∧ x0 < 100000) (w0 : -9223372036854775808 ≤ a0 ∧ a0 ≤ 9223372036854775807) (w1 : -9223372036854775808 ≤ a1 ∧ a1 ≤ 9223372036854775807) : TabOk (G a0 a1 x0) tabH := by
  intro j f hf
  match j, hf with
  | 0, hf => obtain rfl := Option.some.inj (show some (z0 : NInfo) = some f from hf); exact infoOk_nil
  | 1, hf => obtain rfl := Option.some.inj (show some (z0 : NInfo) = some f from hf); exact infoOk_nil
  | 2, hf => obtain rfl := Option.some.inj (show some (⟨some (.i64, (.ofNat 1), (.ofNat 99999)), none, [⟨0, jn 0, cn 4098, cn 4098⟩]⟩ : NInfo) = some f from hf); exact tabH_2 a0 a1 x0 h0  w0 w1 
  | n + 3, hf => exact absurd hf (by simp [tabH])
theorem kinv (a0 : Int) (a1 : Int) (x0 : Nat) (h0 : 1 ≤ x0 ∧ x0 < 100000) (w0 : -9223372036854775808 ≤ a0 ∧ a0 ≤ 9223372036854775807) (w1 : -9223372036854775808 ≤ a1 ∧ a1 ≤ 9223372036854775807) : KInv (symL (base a0 a1 x0)) [some .i64, some .i64, some .i64] := by
  intro i k hi
  match i, hi with
  | 0, hi => cases hi; exact ⟨a0, rfl, by rw [inK_iff]; exact w0⟩
  | 1, hi => cases hi; exact ⟨a1, rfl, by rw [inK_iff]; exact w1⟩
  | 2, hi => cases hi; exact ⟨.ofNat x0, rfl, by rw [inK_iff]; show (-9223372036854775808 : Int) ≤ (x0 : Int) ∧ (x0 : Int) ≤ 9223372036854775807; omega⟩
  | n + 3, hi => cases hi
theorem named_ok (a0 : Int) (a1 : Int) (x0 : Nat) (i : Nat) : named (G a0 a1 x0 i) := symL_named' (mkVals_named (by intro v hv; simp only [base, List.mem_cons, List.not_mem_nil, or_false] at hv; rcases hv with rfl | rfl | rfl <;> trivial) nam_ok) i
theorem names_ok (a0 : Int) (a1 : Int) (x0 : Nat) (h0 : 1 ≤ x0 ∧ x0 < 100000) (w0 : -9223372036854775808 ≤ a0 ∧ a0 ≤ 9223372036854775807) (w1 : -9223372036854775808 ≤ a1 ∧ a1 ≤ 9223372036854775807) : NamesOk (G a0 a1 x0) (Names.ofL tab) := namesOk_parts (named_ok a0 a1 x0) len_ok (tabH_ok a0 a1 x0 h0  w0 w1 )
theorem crc_ok (a0 : Int) (a1 : Int) (x0 : Nat) : CrcOk (G a0 a1 x0) crcs := crcsB_ok (l := base a0 a1 x0) refs_ok crcs_ok
end Go.Proofs.YtemmgompegkgkaaGreatDoor.toplife.z1
namespace Go.Proofs.YtemmgompegkgkaaGreatDoor.toplife.m0
open Go Vai
set_option linter.unusedVariables false
set_option linter.unusedSimpArgs false
noncomputable def ds : List NDef := [.ent 39 (cn 4096) (bn 0),
  .ent 36 (cn 4098) (bn 0),
  .ent 9 (cn 4098) (jn 8),
  .ent 36 (cn 4100) (bn 0),
  .ent 9 (cn 4098) (jn 16),
  .ent 36 (cn 4102) (bn 0),
  .crc z0w1,
  .ent 39 (cn 4104) (bn 0),
  .ent 9 (cn 4105) (jn 0),
  .ent 36 (cn 4106) (bn 0),
  .ent 9 (cn 4105) (jn 8),
  .ent 36 (cn 4108) (bn 0),
  .ent 9 (cn 4105) (jn 16),
  .ent 36 (cn 4110) (bn 0),
  .ent 9 (cn 4105) (jn 24),
  .ent 36 (cn 4112) (bn 0)]
noncomputable def tabS : List NInfo := [⟨none, none, [⟨39, cn 4096, bn 0, cn 4098⟩]⟩,
  z0,
  ⟨none, none, [⟨36, cn 4098, bn 0, cn 4099⟩, ⟨9, cn 4098, jn 8, cn 4100⟩, ⟨9, cn 4098, jn 16, cn 4102⟩]⟩,
  z0,
  ⟨none, none, [⟨36, cn 4100, bn 0, cn 4101⟩]⟩,
  z0,
  ⟨none, none, [⟨36, cn 4102, bn 0, cn 4103⟩]⟩,
  z0,
  ⟨some (.u32, (.ofNat 0), (.ofNat 4294967295)), none, [⟨39, cn 4104, bn 0, cn 4105⟩]⟩,
  ⟨some (.u64, (.ofNat 0), (.ofNat 18446744073709551615)), none, [⟨9, cn 4105, jn 0, cn 4106⟩, ⟨9, cn 4105, jn 8, cn 4108⟩, ⟨9, cn 4105, jn 16, cn 4110⟩, ⟨9, cn 4105, jn 24, cn 4112⟩]⟩,
  ⟨some (.u64, (.ofNat 0), (.ofNat 18446744073709551615)), none, [⟨36, cn 4106, bn 0, cn 4107⟩]⟩,
  ⟨some (.u8, (.ofNat 0), (.ofNat 255)), none, []⟩,
  ⟨some (.u64, (.ofNat 0), (.ofNat 18446744073709551615)), none, [⟨36, cn 4108, bn 0, cn 4109⟩]⟩,
  ⟨some (.u8, (.ofNat 0), (.ofNat 255)), none, []⟩,
  ⟨some (.u64, (.ofNat 0), (.ofNat 18446744073709551615)), none, [⟨36, cn 4110, bn 0, cn 4111⟩]⟩,
  ⟨some (.u8, (.ofNat 0), (.ofNat 255)), none, []⟩,
  ⟨some (.u64, (.ofNat 0), (.ofNat 18446744073709551615)), none, [⟨36, cn 4112, bn 0, cn 4113⟩]⟩,
  ⟨some (.u8, (.ofNat 0), (.ofNat 255)), none, []⟩]
noncomputable def tabH : List NInfo := [⟨some (.i64, (.ofNat 1), (.ofNat 86400)), none, [⟨14, cn 4096, cn 4096, .bool true⟩, ⟨0, jn 0, cn 4096, cn 4096⟩, ⟨12, cn 4096, cn 4096, .bool false⟩]⟩,
  z0,
  ⟨some (.u64, (.ofNat 1), (.ofNat 86400)), none, [⟨9, cn 4098, jn 0, cn 4098⟩, ⟨9, cn 4098, jn 24, .int .u64 (.ofNat 0)⟩, ⟨9, cn 4098, jn 32, .int .u64 (.ofNat 0)⟩, ⟨9, cn 4098, jn 40, .int .u64 (.ofNat 0)⟩, ⟨9, cn 4098, jn 48, .int .u64 (.ofNat 0)⟩, ⟨9, cn 4098, jn 56, .int .u64 (.ofNat 0)⟩]⟩,
  ⟨some (.u8, (.ofNat 0), (.ofNat 255)), none, []⟩,
  ⟨some (.u64, (.ofNat 0), (.ofNat 337)), none, []⟩,
  ⟨some (.u8, (.ofNat 0), (.ofNat 255)), none, []⟩,
  ⟨some (.u64, (.ofNat 0), (.ofNat 1)), none, []⟩,
  ⟨some (.u8, (.ofNat 0), (.ofNat 1)), none, []⟩,
  z0,
  z0,
  z0,
  z0,
  z0,
  z0,
  z0,
  z0,
  z0,
  z0]
noncomputable def tab : List NInfo := (unionT tabS tabH)
noncomputable def crcs : List (List Value × Value) := [(z0w1, cn 4104)]
noncomputable abbrev base (a0 : Int) (a1 : Int) (x0 : Nat) : List Value := [.int .i64 (.ofNat x0), .int .i64 a1]
noncomputable abbrev G (a0 : Int) (a1 : Int) (x0 : Nat) : Sym := symL (mkVals ds (base a0 a1 x0))
set_option maxRecDepth 100000 in
theorem refs_ok : refsAll ds 2 = true := by kernel_rfl
set_option maxRecDepth 100000 in
theorem nam_ok : namDs ds = true := by kernel_rfl
set_option maxRecDepth 100000 in
theorem len_ok : Nat.ble tab.length 4096 = true := by kernel_rfl
set_option maxRecDepth 100000 in
theorem crcs_ok : crcsB ds 2 crcs = true := by kernel_rfl
set_option maxRecDepth 100000 in
theorem sym_ok : symTab (ksOf ds [some .i64, some .i64]) ds 2 tabS 0 = true := by kernel_rfl
theorem gb0 (a0 : Int) (a1 : Int) (x0 : Nat) : G a0 a1 x0 (4096 - 4096) = .int .i64 (.ofNat x0) := by
  show symL (mkVals ds (base a0 a1 x0)) 0 = _
  rw [symL_low ds (base a0 a1 x0) 0 (by simp)]
  rfl
theorem gb1 (a0 : Int) (a1 : Int) (x0 : Nat) : G a0 a1 x0 (4097 - 4096) = .int .i64 a1 := by
  show symL (mkVals ds (base a0 a1 x0)) 1 = _
  rw [symL_low ds (base a0 a1 x0) 1 (by simp)]
  rfl
theorem hv2 (a0 : Int) (a1 : Int) (x0 : Nat) (h0 : 1 ≤ x0 ∧ x0 < 86401) : G a0 a1 x0 (4098 - 4096) = .int .u64 (.ofNat x0) := by
  have hs : ds[0]? = some (.ent 39 (cn 4096) (bn 0)) := rfl
  have hd := mkVals_def (l := base a0 a1 x0) hs (refsAll_get refs_ok hs)
  have hd : G a0 a1 x0 2 = entE 39 (gv (G a0 a1 x0) (cn 4096)) (gv (G a0 a1 x0) (bn 0)) := hd
  rw [gv_chan 4096, gb0 a0 a1 x0] at hd
  exact hd.trans (entE_conv (k' := .u64) (e_conv .i64 .u64 _ x0 x0 rfl (by show _ ≤ _; simp only [posMax]; omega)))
theorem hv3 (a0 : Int) (a1 : Int) (x0 : Nat) (h0 : 1 ≤ x0 ∧ x0 < 86401) : G a0 a1 x0 (4099 - 4096) = .int .u8 (.ofNat (x0 % 256)) := by
  have hs : ds[1]? = some (.ent 36 (cn 4098) (bn 0)) := rfl
  have hd := mkVals_def (l := base a0 a1 x0) hs (refsAll_get refs_ok hs)
  have hd : G a0 a1 x0 3 = entE 36 (gv (G a0 a1 x0) (cn 4098)) (gv (G a0 a1 x0) (bn 0)) := hd
  rw [gv_chan 4098, hv2 a0 a1 x0 h0 ] at hd
  exact hd.trans (entE_conv (k' := .u8) (e_convm .u64 .u8 _ x0 (x0 % 256) rfl rfl))
theorem hv4 (a0 : Int) (a1 : Int) (x0 : Nat) (h0 : 1 ≤ x0 ∧ x0 < 86401) : G a0 a1 x0 (4100 - 4096) = .int .u64 (.ofNat (x0 / 256)) := by
  have hs : ds[2]? = some (.ent 9 (cn 4098) (jn 8)) := rfl
  have hd := mkVals_def (l := base a0 a1 x0) hs (refsAll_get refs_ok hs)
  have hd : G a0 a1 x0 4 = entE 9 (gv (G a0 a1 x0) (cn 4098)) (gv (G a0 a1 x0) (jn 8)) := hd
  rw [gv_chan 4098, hv2 a0 a1 x0 h0 ] at hd
  exact hd.trans (entE_of (by decide) (e_shr .u64 .i64 x0 8 (x0 / 256) (by decide) rfl))
theorem hv5 (a0 : Int) (a1 : Int) (x0 : Nat) (h0 : 1 ≤ x0 ∧ x0 < 86401) : G a0 a1 x0 (4101 - 4096) = .int .u8 (.ofNat ((x0 / 256) % 256)) := by
  have hs : ds[3]? = some (.ent 36 (cn 4100) (bn 0)) := rfl
  have hd := mkVals_def (l := base a0 a1 x0) hs (refsAll_get refs_ok hs)
  have hd : G a0 a1 x0 5 = entE 36 (gv (G a0 a1 x0) (cn 4100)) (gv (G a0 a1 x0) (bn 0)) := hd
  rw [gv_chan 4100, hv4 a0 a1 x0 h0 ] at hd
  exact hd.trans (entE_conv (k' := .u8) (e_convm .u64 .u8 _ (x0 / 256) ((x0 / 256) % 256) rfl rfl))
theorem hv6 (a0 : Int) (a1 : Int) (x0 : Nat) (h0 : 1 ≤ x0 ∧ x0 < 86401) : G a0 a1 x0 (4102 - 4096) = .int .u64 (.ofNat (x0 / 65536)) := by
  have hs : ds[4]? = some (.ent 9 (cn 4098) (jn 16)) := rfl
  have hd := mkVals_def (l := base a0 a1 x0) hs (refsAll_get refs_ok hs)
  have hd : G a0 a1 x0 6 = entE 9 (gv (G a0 a1 x0) (cn 4098)) (gv (G a0 a1 x0) (jn 16)) := hd
  rw [gv_chan 4098, hv2 a0 a1 x0 h0 ] at hd
  exact hd.trans (entE_of (by decide) (e_shr .u64 .i64 x0 16 (x0 / 65536) (by decide) rfl))
theorem hv7 (a0 : Int) (a1 : Int) (x0 : Nat) (h0 : 1 ≤ x0 ∧ x0 < 86401) : G a0 a1 x0 (4103 - 4096) = .int .u8 (.ofNat (x0 / 65536)) := by
  have hs : ds[5]? = some (.ent 36 (cn 4102) (bn 0)) := rfl
  have hd := mkVals_def (l := base a0 a1 x0) hs (refsAll_get refs_ok hs)
  have hd : G a0 a1 x0 7 = entE 36 (gv (G a0 a1 x0) (cn 4102)) (gv (G a0 a1 x0) (bn 0)) := hd
  rw [gv_chan 4102, hv6 a0 a1 x0 h0 ] at hd
  exact hd.trans (entE_conv (k' := .u8) (e_conv .u64 .u8 _ (x0 / 65536) (x0 / 65536) rfl (by show _ ≤ _; simp only [posMax]; omega)))
theorem tabH_0 (a0 : Int) (a1 : Int) (x0 : Nat) (h0 : 1 ≤ x0 ∧ x0 < 86401) (w0 : -9223372036854775808 ≤ a0 ∧ a0 ≤ 9223372036854775807) (w1 : -9223372036854775808 ≤ a1 ∧ a1 ≤ 9223372036854775807) : InfoOk (G a0 a1 x0) 0 ⟨some (.i64, (.ofNat 1), (.ofNat 86400)), none, [⟨14, cn 4096, cn 4096, .bool true⟩, ⟨0, jn 0, cn 4096, cn 4096⟩, ⟨12, cn 4096, cn 4096, .bool false⟩]⟩ := (infoOk_cons rfl rfl rfl (by rw [gv_chan 4096, gb0 a0 a1 x0]; exact e_leq .i64 (.ofNat x0) (.ofNat x0) true (decide_eq_true (by first | (simp only [Int.ofNat_eq_natCast, ne_eq]; omega) | omega | simp))) (infoOk_cons rfl rfl rfl (by rw [gv_chan 4096, gb0 a0 a1 x0]; exact e_add .i64 0 x0 x0 (by omega) (by show _ ≤ _; simp only [posMax]; omega)) (infoOk_cons rfl rfl rfl (by rw [gv_chan 4096, gb0 a0 a1 x0]; exact e_neq .i64 (.ofNat x0) (.ofNat x0) false (decide_eq_false (by first | (simp only [Int.ofNat_eq_natCast, ne_eq]; omega) | omega | simp))) (infoOk_rng (gb0 a0 a1 x0) (by simp only [Int.ofNat_eq_natCast]; omega) (by simp only [Int.ofNat_eq_natCast]; omega)))))
theorem tabH_2 (a0 : Int) (a1 : Int) (x0 : Nat) (h0 : 1 ≤ x0 ∧ x0 < 86401) (w0 : -9223372036854775808 ≤ a0 ∧ a0 ≤ 9223372036854775807) (w1 : -9223372036854775808 ≤ a1 ∧ a1 ≤ 9223372036854775807) : InfoOk (G a0 a1 x0) 2 ⟨some (.u64, (.ofNat 1), (.ofNat 86400)), none, [⟨9, cn 4098, jn 0, cn 4098⟩, ⟨9, cn 4098, jn 24, .int .u64 (.ofNat 0)⟩, ⟨9, cn 4098, jn 32, .int .u64 (.ofNat 0)⟩, ⟨9, cn 4098, jn 40, .int .u64 (.ofNat 0)⟩, ⟨9, cn 4098, jn 48, .int .u64 (.ofNat 0)⟩, ⟨9, cn 4098, jn 56, .int .u64 (.ofNat 0)⟩]⟩ := (infoOk_cons rfl rfl rfl (by rw [gv_chan 4098, hv2 a0 a1 x0 h0 ]; exact e_shr .u64 .i64 x0 0 x0 (by decide) (by omega)) (infoOk_cons rfl rfl rfl (by rw [gv_chan 4098, hv2 a0 a1 x0 h0 ]; exact e_shr .u64 .i64 x0 24 0 (by decide) (by omega)) (infoOk_cons rfl rfl rfl (by rw [gv_chan 4098, hv2 a0 a1 x0 h0 ]; exact e_shr .u64 .i64 x0 32 0 (by decide) (by omega)) (infoOk_cons rfl rfl rfl (by rw [gv_chan 4098, hv2 a0 a1 x0 h0 ]; exact e_shr .u64 .i64 x0 40 0 (by decide) (by omega)) (infoOk_cons rfl rfl rfl (by rw [gv_chan 4098, hv2 a0 a1 x0 h0 ]; exact e_shr .u64 .i64 x0 48 0 (by decide) (by omega)) (infoOk_cons rfl rfl rfl (by rw [gv_chan 4098, hv2 a0 a1 x0 h0 ]; exact e_shr .u64 .i64 x0 56 0 (by decide) (by omega)) (infoOk_rng (hv2 a0 a1 x0 h0 ) (by simp only [Int.ofNat_eq_natCast]; omega) (by simp only [Int.ofNat_eq_natCast]; omega))))))))
theorem tabH_3 (a0 : Int) (a1 : Int) (x0 : Nat) (h0 : 1 ≤ x0 ∧ x0 < 86401) (w0 : -9223372036854775808 ≤ a0 ∧ a0 ≤ 9223372036854775807) (w1 : -9223372036854775808 ≤ a1 ∧ a1 ≤ 9223372036854775807) : InfoOk (G a0 a1 x0) 3 ⟨some (.u8, (.ofNat 0), (.ofNat 255)), none, []⟩ := (infoOk_rng (hv3 a0 a1 x0 h0 ) (by simp only [Int.ofNat_eq_natCast]; omega) (by simp only [Int.ofNat_eq_natCast]; omega))
theorem tabH_4 (a0 : Int) (a1 : Int) (x0 : Nat) (h0 : 1 ≤ x0 ∧ x0 < 86401) (w0 : -9223372036854775808 ≤ a0 ∧ a0 ≤ 9223372036854775807) (w1 : -9223372036854775808 ≤ a1 ∧ a1 ≤ 9223372036854775807) : InfoOk (G a0 a1 x0) 4 ⟨some (.u64, (.ofNat 0), (.ofNat 337)), none, []⟩ := (infoOk_rng (hv4 a0 a1 x0 h0 ) (by simp only [Int.ofNat_eq_natCast]; omega) (by simp only [Int.ofNat_eq_natCast]; omega))
theorem tabH_5 (a0 : Int) (a1 : Int) (x0 : Nat) (h0 : 1 ≤ x0 ∧ x0 < 86401) (w0 : -9223372036854775808 ≤ a0 ∧ a0 ≤ 9223372036854775807) (w1 : -9223372036854775808 ≤ a1 ∧ a1 ≤ 9223372036854775807) : InfoOk (G a0 a1 x0) 5 ⟨some (.u8, (.ofNat 0), (.ofNat 255)), none, []⟩ := (infoOk_rng (hv5 a0 a1 x0 h0 ) (by simp only [Int.ofNat_eq_natCast]; omega) (by simp only [Int.ofNat_eq_natCast]; omega))
theorem tabH_6 (a0 : Int) (a1 : Int) (x0 : Nat) (h0 : 1 ≤ x0 ∧ x0 < 86401) (w0 : -9223372036854775808 ≤ a0 ∧ a0 ≤ 9223372036854775807) (w1 : -9223372036854775808 ≤ a1 ∧ a1 ≤ 9223372036854775807) : InfoOk (G a0 a1 x0) 6 ⟨some (.u64, (.ofNat 0), (.ofNat 1)), none, []⟩ := (infoOk_rng (hv6 a0 a1 x0 h0 ) (by simp only [Int.ofNat_eq_natCast]; omega) (by simp only [Int.ofNat_eq_natCast]; omega))
theorem tabH_7 (a0 : Int) (a1 : Int) (x0 : Nat) (h0 : 1 ≤ x0 ∧ x0 < 86401) (w0 : -9223372036854775808 ≤ a0 ∧ a0 ≤ 9223372036854775807) (w1 : -9223372036854775808 ≤ a1 ∧ a1 ≤ 9223372036854775807) : InfoOk (G a0 a1 x0) 7 ⟨some (.u8, (.ofNat 0), (.ofNat 1)), none, []⟩ := (infoOk_rng (hv7 a0 a1 x0 h0 ) (by simp only [Int.ofNat_eq_natCast]; omega) (by simp only [Int.ofNat_eq_natCast]; omega))
theorem tabH_ok (a0 : Int) (a1 : Int) (x0 : Nat) (h0 : 1 ≤ x0 ∧ x0 < 86401) (w0 : -9223372036854775808 ≤ a0 ∧ a0 ≤ 9223372036854775807) (w1 : -9223372036854775808 ≤ a1 ∧ a1 ≤ 9223372036854775807) : TabOk (G a0 a1 x0) tabH := by
  intro j f hf
  match j, hf with
  | 0, hf => obtain rfl := Option.some.inj (show some (⟨some (.i64, (.ofNat 1), (.ofNat 86400)), none, [⟨14, cn 4096, cn 4096, .bool true⟩, ⟨0, jn 0, cn 4096, cn 4096⟩, ⟨12, cn 4096, cn 4096, .bool false⟩]⟩ : NInfo) = some f from hf); exact tabH_0 a0 a1 x0 h0  w0 w1 
  | 1, hf => obtain rfl := Option.some.inj (show some (z0 : NInfo) = some f from hf); exact infoOk_nil
  | 2, hf => obtain rfl := Option.some.inj (show some (⟨some (.u64, (.ofNat 1), (.ofNat 86400)), none, [⟨9, cn 4098, jn 0, cn 4098⟩, ⟨9, cn 4098, jn 24, .int .u64 (.ofNat 0)⟩, ⟨9, cn 4098, jn 32, .int .u64 (.ofNat 0)⟩, ⟨9, cn 4098, jn 40, .int .u64 (.ofNat 0)⟩, ⟨9, cn 4098, jn 48, .int .u64 (.ofNat 0)⟩, ⟨9, cn 4098, jn 56, .int .u64 (.ofNat 0)⟩]⟩ : NInfo) = some f from hf); exact tabH_2 a0 a1 x0 h0  w0 w1 
  | 3, hf => obtain rfl := Option.some.inj (show some (⟨some (.u8, (.ofNat 0), (.ofNat 255)), none, []⟩ : NInfo) = some f from hf); exact tabH_3 a0 a1 x0 h0  w0 w1 
  | 4, hf => obtain rfl := Option.some.inj (show some (⟨some (.u64, (.ofNat 0), (.ofNat 337)), none, []⟩ : NInfo) = some f from hf); exact tabH_4 a0 a1 x0 h0  w0 w1 
  | 5, hf => obtain rfl := Option.some.inj (show some (⟨some (.u8, (.ofNat 0), (.ofNat 255)), none, []⟩ : NInfo) = some f from hf); exact tabH_5 a0 a1 x0 h0  w0 w1 
  | 6, hf => obtain rfl := Option.some.inj (show some (⟨some (.u64, (.ofNat 0), (.ofNat 1)), none, []⟩ : NInfo) = some f from hf); exact tabH_6 a0 a1 x0 h0  w0 w1 
  | 7, hf => obtain rfl := Option.some.inj (show some (⟨some (.u8, (.ofNat 0), (.ofNat 1)), none, []⟩ : NInfo) = some f from hf); exact tabH_7 a0 a1 x0 h0  w0 w1 
  | 8, hf => obtain rfl := Option.some.inj (show some (z0 : NInfo) = some f from hf); exact infoOk_nil
  | 9, hf => obtain rfl := Option.some.inj (show some (z0 : NInfo) = some f from hf); exact infoOk_nil
  | 10, hf => obtain rfl := Option.some.inj (show some (z0 : NInfo) = some f from hf); exact infoOk_nil
  | 11, hf => obtain rfl := Option.some.inj (show some (z0 : NInfo) = some f from hf); exact infoOk_nil
  | 12, hf => obtain rfl := Option.some.inj (show some (z0 : NInfo) = some f from hf); exact infoOk_nil
  | 13, hf => obtain rfl := Option.some.inj (show some (z0 : NInfo) = some f from hf); exact infoOk_nil
  | 14, hf => obtain rfl := Option.some.inj (show some (z0 : NInfo) = some f from hf); exact infoOk_nil
  | 15, hf => obtain rfl := Option.some.inj (show some (z0 : NInfo) = some f from hf); exact infoOk_nil
  | 16, hf => obtain rfl := Option.some.inj (show some (z0 : NInfo) = some f from hf); exact infoOk_nil
  | 17, hf => obtain rfl := Option.some.inj (show some (z0 : NInfo) = some f from hf); exact infoOk_nil
  | n + 18, hf => exact absurd hf (by simp [tabH])
theorem kinv (a0 : Int) (a1 : Int) (x0 : Nat) (h0 : 1 ≤ x0 ∧ x0 < 86401) (w0 : -9223372036854775808 ≤ a0 ∧ a0 ≤ 9223372036854775807) (w1 : -9223372036854775808 ≤ a1 ∧ a1 ≤ 9223372036854775807) : KInv (symL (base a0 a1 x0)) [some .i64, some .i64] := by
  intro i k hi
  match i, hi with
  | 0, hi => cases hi; exact ⟨.ofNat x0, rfl, by rw [inK_iff]; show (-9223372036854775808 : Int) ≤ (x0 : Int) ∧ (x0 : Int) ≤ 9223372036854775807; omega⟩
  | 1, hi => cases hi; exact ⟨a1, rfl, by rw [inK_iff]; exact w1⟩
  | n + 2, hi => cases hi
theorem named_ok (a0 : Int) (a1 : Int) (x0 : Nat) (i : Nat) : named (G a0 a1 x0 i) := symL_named' (mkVals_named (by intro v hv; simp only [base, List.mem_cons, List.not_mem_nil, or_false] at hv; rcases hv with rfl | rfl <;> trivial) nam_ok) i
theorem names_ok (a0 : Int) (a1 : Int) (x0 : Nat) (h0 : 1 ≤ x0 ∧ x0 < 86401) (w0 : -9223372036854775808 ≤ a0 ∧ a0 ≤ 9223372036854775807) (w1 : -9223372036854775808 ≤ a1 ∧ a1 ≤ 9223372036854775807) : NamesOk (G a0 a1 x0) (Names.ofL tab) := namesOk_parts (named_ok a0 a1 x0) len_ok (TabOk.union (symTab_part (l := base a0 a1 x0) rfl (kinv a0 a1 x0 h0 w0 w1) refs_ok sym_ok) (tabH_ok a0 a1 x0 h0  w0 w1 ))
theorem crc_ok (a0 : Int) (a1 : Int) (x0 : Nat) : CrcOk (G a0 a1 x0) crcs := crcsB_ok (l := base a0 a1 x0) refs_ok crcs_ok
end Go.Proofs.YtemmgompegkgkaaGreatDoor.toplife.m0
namespace Go.Proofs.YtemmgompegkgkaaGreatDoor.toplife.ml
open Go Vai
set_option linter.unusedVariables false
set_option linter.unusedSimpArgs false
noncomputable def ds : List NDef := [.ent 39 (cn 4096) (bn 0),
  .ent 36 (cn 4099) (bn 0),
  .ent 9 (cn 4099) (jn 8),
  .ent 36 (cn 4101) (bn 0),
  .ent 9 (cn 4099) (jn 16),
  .ent 36 (cn 4103) (bn 0),
  .crc z0w0,
  .ent 39 (cn 4105) (bn 0),
  .ent 9 (cn 4106) (jn 0),
  .ent 36 (cn 4107) (bn 0),
  .ent 9 (cn 4106) (jn 8),
  .ent 36 (cn 4109) (bn 0),
  .ent 9 (cn 4106) (jn 16),
  .ent 36 (cn 4111) (bn 0),
  .ent 9 (cn 4106) (jn 24),
  .ent 36 (cn 4113) (bn 0)]
noncomputable def tabS : List NInfo := [⟨none, none, [⟨39, cn 4096, bn 0, cn 4099⟩]⟩,
  z0,
  z0,
  ⟨none, none, [⟨36, cn 4099, bn 0, cn 4100⟩, ⟨9, cn 4099, jn 8, cn 4101⟩, ⟨9, cn 4099, jn 16, cn 4103⟩]⟩,
  z0,
  ⟨none, none, [⟨36, cn 4101, bn 0, cn 4102⟩]⟩,
  z0,
  ⟨none, none, [⟨36, cn 4103, bn 0, cn 4104⟩]⟩,
  z0,
  ⟨some (.u32, (.ofNat 0), (.ofNat 4294967295)), none, [⟨39, cn 4105, bn 0, cn 4106⟩]⟩,
  ⟨some (.u64, (.ofNat 0), (.ofNat 18446744073709551615)), none, [⟨9, cn 4106, jn 0, cn 4107⟩, ⟨9, cn 4106, jn 8, cn 4109⟩, ⟨9, cn 4106, jn 16, cn 4111⟩, ⟨9, cn 4106, jn 24, cn 4113⟩]⟩,
  ⟨some (.u64, (.ofNat 0), (.ofNat 18446744073709551615)), none, [⟨36, cn 4107, bn 0, cn 4108⟩]⟩,
  ⟨some (.u8, (.ofNat 0), (.ofNat 255)), none, []⟩,
  ⟨some (.u64, (.ofNat 0), (.ofNat 18446744073709551615)), none, [⟨36, cn 4109, bn 0, cn 4110⟩]⟩,
  ⟨some (.u8, (.ofNat 0), (.ofNat 255)), none, []⟩,
  ⟨some (.u64, (.ofNat 0), (.ofNat 18446744073709551615)), none, [⟨36, cn 4111, bn 0, cn 4112⟩]⟩,
  ⟨some (.u8, (.ofNat 0), (.ofNat 255)), none, []⟩,
  ⟨some (.u64, (.ofNat 0), (.ofNat 18446744073709551615)), none, [⟨36, cn 4113, bn 0, cn 4114⟩]⟩,
  ⟨some (.u8, (.ofNat 0), (.ofNat 255)), none, []⟩]
noncomputable def tabH : List NInfo := [⟨some (.i64, (.ofNat 2), (.ofNat 86400)), none, [⟨14, cn 4096, cn 4096, .bool true⟩, ⟨0, jn 0, cn 4096, cn 4096⟩, ⟨12, cn 4096, cn 4096, .bool false⟩]⟩,
  z0,
  ⟨some (.i64, (.ofNat 1), (.ofNat 86399)), none, [⟨0, jn 0, cn 4098, cn 4098⟩, ⟨13, cn 4098, cn 4096, .bool true⟩]⟩,
  ⟨some (.u64, (.ofNat 2), (.ofNat 86400)), none, [⟨9, cn 4099, jn 0, cn 4099⟩, ⟨9, cn 4099, jn 24, .int .u64 (.ofNat 0)⟩, ⟨9, cn 4099, jn 32, .int .u64 (.ofNat 0)⟩, ⟨9, cn 4099, jn 40, .int .u64 (.ofNat 0)⟩, ⟨9, cn 4099, jn 48, .int .u64 (.ofNat 0)⟩, ⟨9, cn 4099, jn 56, .int .u64 (.ofNat 0)⟩]⟩,
  ⟨some (.u8, (.ofNat 0), (.ofNat 255)), none, []⟩,
  ⟨some (.u64, (.ofNat 0), (.ofNat 337)), none, []⟩,
  ⟨some (.u8, (.ofNat 0), (.ofNat 255)), none, []⟩,
  ⟨some (.u64, (.ofNat 0), (.ofNat 1)), none, []⟩,
  ⟨some (.u8, (.ofNat 0), (.ofNat 1)), none, []⟩,
  z0,
  z0,
  z0,
  z0,
  z0,
  z0,
  z0,
  z0,
  z0,
  z0]
noncomputable def tab : List NInfo := (unionT tabS tabH)
noncomputable def crcs : List (List Value × Value) := [(z0w0, cn 4105)]
noncomputable abbrev base (a0 : Int) (a1 : Int) (x0 : Nat) (x1 : Nat) : List Value := [.int .i64 (.ofNat x0), .int .i64 a1, .int .i64 (.ofNat x1)]
noncomputable abbrev G (a0 : Int) (a1 : Int) (x0 : Nat) (x1 : Nat) : Sym := symL (mkVals ds (base a0 a1 x0 x1))
set_option maxRecDepth 100000 in
theorem refs_ok : refsAll ds 3 = true := by kernel_rfl
set_option maxRecDepth 100000 in
theorem nam_ok : namDs ds = true := by kernel_rfl
set_option maxRecDepth 100000 in
theorem len_ok : Nat.ble tab.length 4096 = true := by kernel_rfl
set_option maxRecDepth 100000 in
theorem crcs_ok : crcsB ds 3 crcs = true := by kernel_rfl
set_option maxRecDepth 100000 in
theorem sym_ok : symTab (ksOf ds [some .i64, some .i64, some .i64]) ds 3 tabS 0 = true := by kernel_rfl
theorem gb0 (a0 : Int) (a1 : Int) (x0 : Nat) (x1 : Nat) : G a0 a1 x0 x1 (4096 - 4096) = .int .i64 (.ofNat x0) := by
  show symL (mkVals ds (base a0 a1 x0 x1)) 0 = _
  rw [symL_low ds (base a0 a1 x0 x1) 0 (by simp)]
  rfl
theorem gb1 (a0 : Int) (a1 : Int) (x0 : Nat) (x1 : Nat) : G a0 a1 x0 x1 (4097 - 4096) = .int .i64 a1 := by
  show symL (mkVals ds (base a0 a1 x0 x1)) 1 = _
  rw [symL_low ds (base a0 a1 x0 x1) 1 (by simp)]
  rfl
theorem gb2 (a0 : Int) (a1 : Int) (x0 : Nat) (x1 : Nat) : G a0 a1 x0 x1 (4098 - 4096) = .int .i64 (.ofNat x1) := by
  show symL (mkVals ds (base a0 a1 x0 x1)) 2 = _
  rw [symL_low ds (base a0 a1 x0 x1) 2 (by simp)]
  rfl
theorem hv3 (a0 : Int) (a1 : Int) (x0 : Nat) (x1 : Nat) (h0 : 2 ≤ x0 ∧ x0 < 86401) (h1 : 1 ≤ x1 ∧ x1 < 86400) (r0 : x1 < x0) : G a0 a1 x0 x1 (4099 - 4096) = .int .u64 (.ofNat x0) := by
  have hs : ds[0]? = some (.ent 39 (cn 4096) (bn 0)) := rfl
  have hd := mkVals_def (l := base a0 a1 x0 x1) hs (refsAll_get refs_ok hs)
  have hd : G a0 a1 x0 x1 3 = entE 39 (gv (G a0 a1 x0 x1) (cn 4096)) (gv (G a0 a1 x0 x1) (bn 0)) := hd
  rw [gv_chan 4096, gb0 a0 a1 x0 x1] at hd
  exact hd.trans (entE_conv (k' := .u64) (e_conv .i64 .u64 _ x0 x0 rfl (by show _ ≤ _; simp only [posMax]; omega)))
theorem hv4 (a0 : Int) (a1 : Int) (x0 : Nat) (x1 : Nat) (h0 : 2 ≤ x0 ∧ x0 < 86401) (h1 : 1 ≤ x1 ∧ x1 < 86400) (r0 : x1 < x0) : G a0 a1 x0 x1 (4100 - 4096) = .int .u8 (.ofNat (x0 % 256)) := by
  have hs : ds[1]? = some (.ent 36 (cn 4099) (bn 0)) := rfl
  have hd := mkVals_def (l := base a0 a1 x0 x1) hs (refsAll_get refs_ok hs)
  have hd : G a0 a1 x0 x1 4 = entE 36 (gv (G a0 a1 x0 x1) (cn 4099)) (gv (G a0 a1 x0 x1) (bn 0)) := hd
  rw [gv_chan 4099, hv3 a0 a1 x0 x1 h0 h1 r0] at hd
  exact hd.trans (entE_conv (k' := .u8) (e_convm .u64 .u8 _ x0 (x0 % 256) rfl rfl))
theorem hv5 (a0 : Int) (a1 : Int) (x0 : Nat) (x1 : Nat) (h0 : 2 ≤ x0 ∧ x0 < 86401) (h1 : 1 ≤ x1 ∧ x1 < 86400) (r0 : x1 < x0) : G a0 a1 x0 x1 (4101 - 4096) = .int .u64 (.ofNat (x0 / 256)) := by
  have hs : ds[2]? = some (.ent 9 (cn 4099) (jn 8)) := rfl
  have hd := mkVals_def (l := base a0 a1 x0 x1) hs (refsAll_get refs_ok hs)
  have hd : G a0 a1 x0 x1 5 = entE 9 (gv (G a0 a1 x0 x1) (cn 4099)) (gv (G a0 a1 x0 x1) (jn 8)) := hd
  rw [gv_chan 4099, hv3 a0 a1 x0 x1 h0 h1 r0] at hd
  exact hd.trans (entE_of (by decide) (e_shr .u64 .i64 x0 8 (x0 / 256) (by decide) rfl))
theorem hv6 (a0 : Int) (a1 : Int) (x0 : Nat) (x1 : Nat) (h0 : 2 ≤ x0 ∧ x0 < 86401) (h1 : 1 ≤ x1 ∧ x1 < 86400) (r0 : x1 < x0) : G a0 a1 x0 x1 (4102 - 4096) = .int .u8 (.ofNat ((x0 / 256) % 256)) := by
  have hs : ds[3]? = some (.ent 36 (cn 4101) (bn 0)) := rfl
  have hd := mkVals_def (l := base a0 a1 x0 x1) hs (refsAll_get refs_ok hs)
  have hd : G a0 a1 x0 x1 6 = entE 36 (gv (G a0 a1 x0 x1) (cn 4101)) (gv (G a0 a1 x0 x1) (bn 0)) := hd
  rw [gv_chan 4101, hv5 a0 a1 x0 x1 h0 h1 r0] at hd
  exact hd.trans (entE_conv (k' := .u8) (e_convm .u64 .u8 _ (x0 / 256) ((x0 / 256) % 256) rfl rfl))
theorem hv7 (a0 : Int) (a1 : Int) (x0 : Nat) (x1 : Nat) (h0 : 2 ≤ x0 ∧ x0 < 86401) (h1 : 1 ≤ x1 ∧ x1 < 86400) (r0 : x1 < x0) : G a0 a1 x0 x1 (4103 - 4096) = .int .u64 (.ofNat (x0 / 65536)) := by
  have hs : ds[4]? = some (.ent 9 (cn 4099) (jn 16)) := rfl
  have hd := mkVals_def (l := base a0 a1 x0 x1) hs (refsAll_get refs_ok hs)
  have hd : G a0 a1 x0 x1 7 = entE 9 (gv (G a0 a1 x0 x1) (cn 4099)) (gv (G a0 a1 x0 x1) (jn 16)) := hd
  rw [gv_chan 4099, hv3 a0 a1 x0 x1 h0 h1 r0] at hd
  exact hd.trans (entE_of (by decide) (e_shr .u64 .i64 x0 16 (x0 / 65536) (by decide) rfl))
theorem hv8 (a0 : Int) (a1 : Int) (x0 : Nat) (x1 : Nat) (h0 : 2 ≤ x0 ∧ x0 < 86401) (h1 : 1 ≤ x1 ∧ x1 < 86400) (r0 : x1 < x0) : G a0 a1 x0 x1 (4104 - 4096) = .int .u8 (.ofNat (x0 / 65536)) := by
  have hs : ds[5]? = some (.ent 36 (cn 4103) (bn 0)) := rfl
  have hd := mkVals_def (l := base a0 a1 x0 x1) hs (refsAll_get refs_ok hs)
  have hd : G a0 a1 x0 x1 8 = entE 36 (gv (G a0 a1 x0 x1) (cn 4103)) (gv (G a0 a1 x0 x1) (bn 0)) := hd
  rw [gv_chan 4103, hv7 a0 a1 x0 x1 h0 h1 r0] at hd
  exact hd.trans (entE_conv (k' := .u8) (e_conv .u64 .u8 _ (x0 / 65536) (x0 / 65536) rfl (by show _ ≤ _; simp only [posMax]; omega)))
theorem tabH_0 (a0 : Int) (a1 : Int) (x0 : Nat) (x1 : Nat) (h0 : 2 ≤ x0 ∧ x0 < 86401) (h1 : 1 ≤ x1 ∧ x1 < 86400) (r0 : x1 < x0) (w0 : -9223372036854775808 ≤ a0 ∧ a0 ≤ 9223372036854775807) (w1 : -9223372036854775808 ≤ a1 ∧ a1 ≤ 9223372036854775807) : InfoOk (G a0 a1 x0 x1) 0 ⟨some (.i64, (.ofNat 2), (.ofNat 86400)), none, [⟨14, cn 4096, cn 4096, .bool true⟩, ⟨0, jn 0, cn 4096, cn 4096⟩, ⟨12, cn 4096, cn 4096, .bool false⟩]⟩ := (infoOk_cons rfl rfl rfl (by rw [gv_chan 4096, gb0 a0 a1 x0 x1]; exact e_leq .i64 (.ofNat x0) (.ofNat x0) true (decide_eq_true (by first | (simp only [Int.ofNat_eq_natCast, ne_eq]; omega) | omega | simp))) (infoOk_cons rfl rfl rfl (by rw [gv_chan 4096, gb0 a0 a1 x0 x1]; exact e_add .i64 0 x0 x0 (by omega) (by show _ ≤ _; simp only [posMax]; omega)) (infoOk_cons rfl rfl rfl (by rw [gv_chan 4096, gb0 a0 a1 x0 x1]; exact e_neq .i64 (.ofNat x0) (.ofNat x0) false (decide_eq_false (by first | (simp only [Int.ofNat_eq_natCast, ne_eq]; omega) | omega | simp))) (infoOk_rng (gb0 a0 a1 x0 x1) (by simp only [Int.ofNat_eq_natCast]; omega) (by simp only [Int.ofNat_eq_natCast]; omega)))))
theorem tabH_2 (a0 : Int) (a1 : Int) (x0 : Nat) (x1 : Nat) (h0 : 2 ≤ x0 ∧ x0 < 86401) (h1 : 1 ≤ x1 ∧ x1 < 86400) (r0 : x1 < x0) (w0 : -9223372036854775808 ≤ a0 ∧ a0 ≤ 9223372036854775807) (w1 : -9223372036854775808 ≤ a1 ∧ a1 ≤ 9223372036854775807) : InfoOk (G a0 a1 x0 x1) 2 ⟨some (.i64, (.ofNat 1), (.ofNat 86399)), none, [⟨0, jn 0, cn 4098, cn 4098⟩, ⟨13, cn 4098, cn 4096, .bool true⟩]⟩ := (infoOk_cons rfl rfl rfl (by rw [gv_chan 4098, gb2 a0 a1 x0 x1]; exact e_add .i64 0 x1 x1 (by omega) (by show _ ≤ _; simp only [posMax]; omega)) (infoOk_cons rfl rfl rfl (by rw [gv_chan 4098, gb2 a0 a1 x0 x1, gv_chan 4096, gb0 a0 a1 x0 x1]; exact e_lss .i64 (.ofNat x1) (.ofNat x0) true (decide_eq_true (by first | (simp only [Int.ofNat_eq_natCast, ne_eq]; omega) | omega | simp))) (infoOk_rng (gb2 a0 a1 x0 x1) (by simp only [Int.ofNat_eq_natCast]; omega) (by simp only [Int.ofNat_eq_natCast]; omega))))
theorem tabH_3 (a0 : Int) (a1 : Int) (x0 : Nat) (x1 : Nat) (h0 : 2 ≤ x0 ∧ x0 < 86401) (h1 : 1 ≤ x1 ∧ x1 < 86400) (r0 : x1 < x0) (w0 : -9223372036854775808 ≤ a0 ∧ a0 ≤ 9223372036854775807) (w1 : -9223372036854775808 ≤ a1 ∧ a1 ≤ 9223372036854775807) : InfoOk (G a0 a1 x0 x1) 3 ⟨some (.u64, (.ofNat 2), (.ofNat 86400)), none, [⟨9, cn 4099, jn 0, cn 4099⟩, ⟨9, cn 4099, jn 24, .int .u64 (.ofNat 0)⟩, ⟨9, cn 4099, jn 32, .int .u64 (.ofNat 0)⟩, ⟨9, cn 4099, jn 40, .int .u64 (.ofNat 0)⟩, ⟨9, cn 4099, jn 48, .int .u64 (.ofNat 0)⟩, ⟨9, cn 4099, jn 56, .int .u64 (.ofNat 0)⟩]⟩ := (infoOk_cons rfl rfl rfl (by rw [gv_chan 4099, hv3 a0 a1 x0 x1 h0 h1 r0]; exact e_shr .u64 .i64 x0 0 x0 (by decide) (by omega)) (infoOk_cons rfl rfl rfl (by rw [gv_chan 4099, hv3 a0 a1 x0 x1 h0 h1 r0]; exact e_shr .u64 .i64 x0 24 0 (by decide) (by omega)) (infoOk_cons rfl rfl rfl (by rw [gv_chan 4099, hv3 a0 a1 x0 x1 h0 h1 r0]; exact e_shr .u64 .i64 x0 32 0 (by decide) (by omega)) (infoOk_cons rfl rfl rfl (by rw [gv_chan 4099, hv3 a0 a1 x0 x1 h0 h1 r0]; exact e_shr .u64 .i64 x0 40 0 (by decide) (by omega)) (infoOk_cons rfl rfl rfl (by rw [gv_chan 4099, hv3 a0 a1 x0 x1 h0 h1 r0]; exact e_shr .u64 .i64 x0 48 0 (by decide) (by omega)) (infoOk_cons rfl rfl rfl (by rw [gv_chan 4099, hv3 a0 a1 x0 x1 h0 h1 r0]; exact e_shr .u64 .i64 x0 56 0 (by decide) (by omega)) (infoOk_rng (hv3 a0 a1 x0 x1 h0 h1 r0) (by simp only [Int.ofNat_eq_natCast]; omega) (by simp only [Int.ofNat_eq_natCast]; omega))))))))
theorem tabH_4 (a0 : Int) (a1 : Int) (x0 : Nat) (x1 : Nat) (h0 : 2 ≤ x0 ∧ x0 < 86401) (h1 : 1 ≤ x1 ∧ x1 < 86400) (r0 : x1 < x0) (w0 : -9223372036854775808 ≤ a0 ∧ a0 ≤ 9223372036854775807) (w1 : -9223372036854775808 ≤ a1 ∧ a1 ≤ 9223372036854775807) : InfoOk (G a0 a1 x0 x1) 4 ⟨some (.u8, (.ofNat 0), (.ofNat 255)), none, []⟩ := (infoOk_rng (hv4 a0 a1 x0 x1 h0 h1 r0) (by simp only [Int.ofNat_eq_natCast]; omega) (by simp only [Int.ofNat_eq_natCast]; omega))
theorem tabH_5 (a0 : Int) (a1 : Int) (x0 : Nat) (x1 : Nat) (h0 : 2 ≤ x0 ∧ x0 < 86401) (h1 : 1 ≤ x1 ∧ x1 < 86400) (r0 : x1 < x0) (w0 : -9223372036854775808 ≤ a0 ∧ a0 ≤ 9223372036854775807) (w1 : -9223372036854775808 ≤ a1 ∧ a1 ≤ 9223372036854775807) : InfoOk (G a0 a1 x0 x1) 5 ⟨some (.u64, (.ofNat 0), (.ofNat 337)), none, []⟩ := (infoOk_rng (hv5 a0 a1 x0 x1 h0 h1 r0) (by simp only [Int.ofNat_eq_natCast]; omega) (by simp only [Int.ofNat_eq_natCast]; omega))
theorem tabH_6 (a0 : Int) (a1 : Int) (x0 : Nat) (x1 : Nat) (h0 : 2 ≤ x0 ∧ x0 < 86401) (h1 : 1 ≤ x1 ∧ x1 < 86400) (r0 : x1 < x0) (w0 : -9223372036854775808 ≤ a0 ∧ a0 ≤ 9223372036854775807) (w1 : -9223372036854775808 ≤ a1 ∧ a1 ≤ 9223372036854775807) : InfoOk (G a0 a1 x0 x1) 6 ⟨some (.u8, (.ofNat 0), (.ofNat 255)), none, []⟩ := (infoOk_rng (hv6 a0 a1 x0 x1 h0 h1 r0) (by simp only [Int.ofNat_eq_natCast]; omega) (by simp only [Int.ofNat_eq_natCast]; omega))
theorem tabH_7 (a0 : Int) (a1 : Int) (x0 : Nat) (x1 : Nat) (h0 : 2 ≤ x0 ∧ x0 < 86401) (h1 : 1 ≤ x1 ∧ x1 < 86400) (r0 : x1 < x0) (w0 : -9223372036854775808 ≤ a0 ∧ a0 ≤ 9223372036854775807) (w1 : -9223372036854775808 ≤ a1 ∧ a1 ≤ 9223372036854775807) : InfoOk (G a0 a1 x0 x1) 7 ⟨some (.u64, (.ofNat 0), (.ofNat 1)), none, []⟩ := (infoOk_rng (hv7 a0 a1 x0 x1 h0 h1 r0) (by simp only [Int.ofNat_eq_natCast]; omega) (by simp only [Int.ofNat_eq_natCast]; omega))
theorem tabH_8 (a0 : Int) (a1 : Int) (x0 : Nat) (x1 : Nat) (h0 : 2 ≤ x0 ∧ x0 < 86401) (h1 : 1 ≤ x1 ∧ x1 < 86400) (r0 : x1 < x0) (w0 : -9223372036854775808 ≤ a0 ∧ a0 ≤ 9223372036854775807) (w1 : -9223372036854775808 ≤ a1 ∧ a1 ≤ 9223372036854775807) : InfoOk (G a0 a1 x0 x1) 8 ⟨some (.u8, (.ofNat 0), (.ofNat 1)), none, []⟩ := (infoOk_rng (hv8 a0 a1 x0 x1 h0 h1 r0) (by simp only [Int.ofNat_eq_natCast]; omega) (by simp only [Int.ofNat_eq_natCast]; omega))
theorem tabH_ok (a0 : Int) (a1 : Int) (x0 : Nat) (x1 : Nat) (h0 : 2 ≤ x0 ∧ x0 < 86401) (h1 : 1 ≤ x1 ∧ x1 < 86400) (r0 : x1 < x0) (w0 : -9223372036854775808 ≤ a0 ∧ a0 ≤ 9223372036854775807) (w1 : -9223372036854775808 ≤ a1 ∧ a1 ≤ 9223372036854775807) : TabOk (G a0 a1 x0 x1) tabH := by
  intro j f hf
  match j, hf with
  | 0, hf => obtain rfl := Option.some.inj (show some (⟨some (.i64, (.ofNat 2), (.ofNat 86400)), none, [⟨14, cn 4096, cn 4096, .bool true⟩, ⟨0, jn 0, cn 4096, cn 4096⟩, ⟨12, cn 4096, cn 4096, .bool false⟩]⟩ : NInfo) = some f from hf); exact tabH_0 a0 a1 x0 x1 h0 h1 r0 w0 w1 
  | 1, hf => obtain rfl := Option.some.inj (show some (z0 : NInfo) = some f from hf); exact infoOk_nil
  | 2, hf => obtain rfl := Option.some.inj (show some (⟨some (.i64, (.ofNat 1), (.ofNat 86399)), none, [⟨0, jn 0, cn 4098, cn 4098⟩, ⟨13, cn 4098, cn 4096, .bool true⟩]⟩ : NInfo) = some f from hf); exact tabH_2 a0 a1 x0 x1 h0 h1 r0 w0 w1 
  | 3, hf => obtain rfl := Option.some.inj (show some (⟨some (.u64, (.ofNat 2), (.ofNat 86400)), none, [⟨9, cn 4099, jn 0, cn 4099⟩, ⟨9, cn 4099, jn 24, .int .u64 (.ofNat 0)⟩, ⟨9, cn 4099, jn 32, .int .u64 (.ofNat 0)⟩, ⟨9, cn 4099, jn 40, .int .u64 (.ofNat 0)⟩, ⟨9, cn 4099, jn 48, .int .u64 (.ofNat 0)⟩, ⟨9, cn 4099, jn 56, .int .u64 (.ofNat 0)⟩]⟩ : NInfo) = some f from hf); exact tabH_3 a0 a1 x0 x1 h0 h1 r0 w0 w1 
  | 4, hf => obtain rfl := Option.some.inj (show some (⟨some (.u8, (.ofNat 0), (.ofNat 255)), none, []⟩ : NInfo) = some f from hf); exact tabH_4 a0 a1 x0 x1 h0 h1 r0 w0 w1 
  | 5, hf => obtain rfl := Option.some.inj (show some (⟨some (.u64, (.ofNat 0), (.ofNat 337)), none, []⟩ : NInfo) = some f from hf); exact tabH_5 a0 a1 x0 x1 h0 h1 r0 w0 w1 
  | 6, hf => obtain rfl := Option.some.inj (show some (⟨some (.u8, (.ofNat 0), (.ofNat 255)), none, []⟩ : NInfo) = some f from hf); exact tabH_6 a0 a1 x0 x1 h0 h1 r0 w0 w1 
  | 7, hf => obtain rfl := Option.some.inj (show some (⟨some (.u64, (.ofNat 0), (.ofNat 1)), none, []⟩ : NInfo) = some f from hf); exact tabH_7 a0 a1 x0 x1 h0 h1 r0 w0 w1 
  | 8, hf => obtain rfl := Option.some.inj (show some (⟨some (.u8, (.ofNat 0), (.ofNat 1)), none, []⟩ : NInfo) = some f from hf); exact tabH_8 a0 a1 x0 x1 h0 h1 r0 w0 w1 
  | 9, hf => obtain rfl := Option.some.inj (show some (z0 : NInfo) = some f from hf); exact infoOk_nil
  | 10, hf => obtain rfl := Option.some.inj (show some (z0 : NInfo) = some f from hf); exact infoOk_nil
  | 11, hf => obtain rfl := Option.some.inj (show some (z0 : NInfo) = some f from hf); exact infoOk_nil
  | 12, hf => obtain rfl := Option.some.inj (show some (z0 : NInfo) = some f from hf); exact infoOk_nil
  | 13, hf => obtain rfl := Option.some.inj (show some (z0 : NInfo) = some f from hf); exact infoOk_nil
  | 14, hf => obtain rfl := Option.some.inj (show some (z0 : NInfo) = some f from hf); exact infoOk_nil
  | 15, hf => obtain rfl := Option.some.inj (show some (z0 : NInfo) = some f from hf); exact infoOk_nil
  | 16, hf => obtain rfl := Option.some.inj (show some (z0 : NInfo) = some f from hf); exact infoOk_nil
  | 17, hf => obtain rfl := Option.some.inj (show some (z0 : NInfo) = some f from hf); exact infoOk_nil
  | 18, hf => obtain rfl := Option.some.inj (show some (z0 : NInfo) = some f from hf); exact infoOk_nil
  | n + 19, hf => exact absurd hf (by simp [tabH])
theorem kinv (a0 : Int) (a1 : Int) (x0 : Nat) (x1 : Nat) (h0 : 2 ≤ x0 ∧ x0 < 86401) (h1 : 1 ≤ x1 ∧ x1 < 86400) (w0 : -9223372036854775808 ≤ a0 ∧ a0 ≤ 9223372036854775807) (w1 : -9223372036854775808 ≤ a1 ∧ a1 ≤ 9223372036854775807) : KInv (symL (base a0 a1 x0 x1)) [some .i64, some .i64, some .i64] := by
  intro i k hi
  match i, hi with
  | 0, hi => cases hi; exact ⟨.ofNat x0, rfl, by rw [inK_iff]; show (-9223372036854775808 : Int) ≤ (x0 : Int) ∧ (x0 : Int) ≤ 9223372036854775807; omega⟩
  | 1, hi => cases hi; exact ⟨a1, rfl, by rw [inK_iff]; exact w1⟩
  | 2, hi => cases hi; exact ⟨.ofNat x1, rfl, by rw [inK_iff]; show (-9223372036854775808 : Int) ≤ (x1 : Int) ∧ (x1 : Int) ≤ 9223372036854775807; omega⟩
  | n + 3, hi => cases hi
theorem named_ok (a0 : Int) (a1 : Int) (x0 : Nat) (x1 : Nat) (i : Nat) : named (G a0 a1 x0 x1 i) := symL_named' (mkVals_named (by intro v hv; simp only [base, List.mem_cons, List.not_mem_nil, or_false] at hv; rcases hv with rfl | rfl | rfl <;> trivial) nam_ok) i
theorem names_ok (a0 : Int) (a1 : Int) (x0 : Nat) (x1 : Nat) (h0 : 2 ≤ x0 ∧ x0 < 86401) (h1 : 1 ≤ x1 ∧ x1 < 86400) (r0 : x1 < x0) (w0 : -9223372036854775808 ≤ a0 ∧ a0 ≤ 9223372036854775807) (w1 : -9223372036854775808 ≤ a1 ∧ a1 ≤ 9223372036854775807) : NamesOk (G a0 a1 x0 x1) (Names.ofL tab) := namesOk_parts (named_ok a0 a1 x0 x1) len_ok (TabOk.union (symTab_part (l := base a0 a1 x0 x1) rfl (kinv a0 a1 x0 x1 h0 h1 w0 w1) refs_ok sym_ok) (tabH_ok a0 a1 x0 x1 h0 h1 r0 w0 w1 ))
theorem crc_ok (a0 : Int) (a1 : Int) (x0 : Nat) (x1 : Nat) : CrcOk (G a0 a1 x0 x1) crcs := crcsB_ok (l := base a0 a1 x0 x1) refs_ok crcs_ok
end Go.Proofs.YtemmgompegkgkaaGreatDoor.toplife.ml
namespace Go.Proofs.YtemmgompegkgkaaGreatDoor.toplife.mg
open Go Vai
set_option linter.unusedVariables false
set_option linter.unusedSimpArgs false
noncomputable def ds : List NDef := [.ent 39 (cn 4096) (bn 0),
  .ent 36 (cn 4099) (bn 0),
  .ent 9 (cn 4099) (jn 8),
  .ent 36 (cn 4101) (bn 0),
  .ent 9 (cn 4099) (jn 16),
  .ent 36 (cn 4103) (bn 0),
  .crc z0w0,
  .ent 39 (cn 4105) (bn 0),
  .ent 9 (cn 4106) (jn 0),
  .ent 36 (cn 4107) (bn 0),
  .ent 9 (cn 4106) (jn 8),
  .ent 36 (cn 4109) (bn 0),
  .ent 9 (cn 4106) (jn 16),
  .ent 36 (cn 4111) (bn 0),
  .ent 9 (cn 4106) (jn 24),
  .ent 36 (cn 4113) (bn 0),
  .ent 0 (cn 4098) (cn 4096),
  .ent 39 (cn 4115) (bn 0),
  .ent 36 (cn 4116) (bn 0),
  .ent 9 (cn 4116) (jn 8),
  .ent 36 (cn 4118) (bn 0),
  .ent 9 (cn 4116) (jn 16),
  .ent 36 (cn 4120) (bn 0),
  .crc z0w2,
  .ent 39 (cn 4122) (bn 0),
  .ent 9 (cn 4123) (jn 0),
  .ent 36 (cn 4124) (bn 0),
  .ent 9 (cn 4123) (jn 8),
  .ent 36 (cn 4126) (bn 0),
  .ent 9 (cn 4123) (jn 16),
  .ent 36 (cn 4128) (bn 0),
  .ent 9 (cn 4123) (jn 24),
  .ent 36 (cn 4130) (bn 0)]
noncomputable def tabS : List NInfo := [⟨none, none, [⟨39, cn 4096, bn 0, cn 4099⟩]⟩,
  z0,
  ⟨none, none, [⟨0, cn 4098, cn 4096, cn 4115⟩]⟩,
  ⟨none, none, [⟨36, cn 4099, bn 0, cn 4100⟩, ⟨9, cn 4099, jn 8, cn 4101⟩, ⟨9, cn 4099, jn 16, cn 4103⟩]⟩,
  z0,
  ⟨none, none, [⟨36, cn 4101, bn 0, cn 4102⟩]⟩,
  z0,
  ⟨none, none, [⟨36, cn 4103, bn 0, cn 4104⟩]⟩,
  z0,
  ⟨some (.u32, (.ofNat 0), (.ofNat 4294967295)), none, [⟨39, cn 4105, bn 0, cn 4106⟩]⟩,
  ⟨some (.u64, (.ofNat 0), (.ofNat 18446744073709551615)), none, [⟨9, cn 4106, jn 0, cn 4107⟩, ⟨9, cn 4106, jn 8, cn 4109⟩, ⟨9, cn 4106, jn 16, cn 4111⟩, ⟨9, cn 4106, jn 24, cn 4113⟩]⟩,
  ⟨some (.u64, (.ofNat 0), (.ofNat 18446744073709551615)), none, [⟨36, cn 4107, bn 0, cn 4108⟩]⟩,
  ⟨some (.u8, (.ofNat 0), (.ofNat 255)), none, []⟩,
  ⟨some (.u64, (.ofNat 0), (.ofNat 18446744073709551615)), none, [⟨36, cn 4109, bn 0, cn 4110⟩]⟩,
  ⟨some (.u8, (.ofNat 0), (.ofNat 255)), none, []⟩,
  ⟨some (.u64, (.ofNat 0), (.ofNat 18446744073709551615)), none, [⟨36, cn 4111, bn 0, cn 4112⟩]⟩,
  ⟨some (.u8, (.ofNat 0), (.ofNat 255)), none, []⟩,
  ⟨some (.u64, (.ofNat 0), (.ofNat 18446744073709551615)), none, [⟨36, cn 4113, bn 0, cn 4114⟩]⟩,
  ⟨some (.u8, (.ofNat 0), (.ofNat 255)), none, []⟩,
  ⟨none, none, [⟨39, cn 4115, bn 0, cn 4116⟩]⟩,
  ⟨none, none, [⟨36, cn 4116, bn 0, cn 4117⟩, ⟨9, cn 4116, jn 8, cn 4118⟩, ⟨9, cn 4116, jn 16, cn 4120⟩]⟩,
  z0,
  ⟨none, none, [⟨36, cn 4118, bn 0, cn 4119⟩]⟩,
  z0,
  ⟨none, none, [⟨36, cn 4120, bn 0, cn 4121⟩]⟩,
  z0,
  ⟨some (.u32, (.ofNat 0), (.ofNat 4294967295)), none, [⟨39, cn 4122, bn 0, cn 4123⟩]⟩,
  ⟨some (.u64, (.ofNat 0), (.ofNat 18446744073709551615)), none, [⟨9, cn 4123, jn 0, cn 4124⟩, ⟨9, cn 4123, jn 8, cn 4126⟩, ⟨9, cn 4123, jn 16, cn 4128⟩, ⟨9, cn 4123, jn 24, cn 4130⟩]⟩,
  ⟨some (.u64, (.ofNat 0), (.ofNat 18446744073709551615)), none, [⟨36, cn 4124, bn 0, cn 4125⟩]⟩,
  ⟨some (.u8, (.ofNat 0), (.ofNat 255)), none, []⟩,
  ⟨some (.u64, (.ofNat 0), (.ofNat 18446744073709551615)), none, [⟨36, cn 4126, bn 0, cn 4127⟩]⟩,
  ⟨some (.u8, (.ofNat 0), (.ofNat 255)), none, []⟩,
  ⟨some (.u64, (.ofNat 0), (.ofNat 18446744073709551615)), none, [⟨36, cn 4128, bn 0, cn 4129⟩]⟩,
  ⟨some (.u8, (.ofNat 0), (.ofNat 255)), none, []⟩,
  ⟨some (.u64, (.ofNat 0), (.ofNat 18446744073709551615)), none, [⟨36, cn 4130, bn 0, cn 4131⟩]⟩,
  ⟨some (.u8, (.ofNat 0), (.ofNat 255)), none, []⟩]
noncomputable def tabH : List NInfo := [⟨some (.i64, (.ofNat 1), (.ofNat 86400)), none, [⟨14, cn 4096, cn 4096, .bool true⟩, ⟨0, jn 0, cn 4096, cn 4096⟩, ⟨12, cn 4096, cn 4096, .bool false⟩]⟩,
  z0,
  ⟨some (.i64, (.ofNat 1), (.ofNat 99999)), none, [⟨0, jn 0, cn 4098, cn 4098⟩, ⟨13, cn 4098, cn 4096, .bool false⟩]⟩,
  ⟨some (.u64, (.ofNat 1), (.ofNat 86400)), none, [⟨9, cn 4099, jn 0, cn 4099⟩, ⟨9, cn 4099, jn 24, .int .u64 (.ofNat 0)⟩, ⟨9, cn 4099, jn 32, .int .u64 (.ofNat 0)⟩, ⟨9, cn 4099, jn 40, .int .u64 (.ofNat 0)⟩, ⟨9, cn 4099, jn 48, .int .u64 (.ofNat 0)⟩, ⟨9, cn 4099, jn 56, .int .u64 (.ofNat 0)⟩]⟩,
  ⟨some (.u8, (.ofNat 0), (.ofNat 255)), none, []⟩,
  ⟨some (.u64, (.ofNat 0), (.ofNat 337)), none, []⟩,
  ⟨some (.u8, (.ofNat 0), (.ofNat 255)), none, []⟩,
  ⟨some (.u64, (.ofNat 0), (.ofNat 1)), none, []⟩,
  ⟨some (.u8, (.ofNat 0), (.ofNat 1)), none, []⟩,
  z0,
  z0,
  z0,
  z0,
  z0,
  z0,
  z0,
  z0,
  z0,
  z0,
  ⟨some (.i64, (.ofNat 2), (.ofNat 186399)), none, []⟩,
  ⟨some (.u64, (.ofNat 2), (.ofNat 186399)), none, [⟨9, cn 4116, jn 0, cn 4116⟩, ⟨9, cn 4116, jn 24, .int .u64 (.ofNat 0)⟩, ⟨9, cn 4116, jn 32, .int .u64 (.ofNat 0)⟩, ⟨9, cn 4116, jn 40, .int .u64 (.ofNat 0)⟩, ⟨9, cn 4116, jn 48, .int .u64 (.ofNat 0)⟩, ⟨9, cn 4116, jn 56, .int .u64 (.ofNat 0)⟩]⟩,
  ⟨some (.u8, (.ofNat 0), (.ofNat 255)), none, []⟩,
  ⟨some (.u64, (.ofNat 0), (.ofNat 728)), none, []⟩,
  ⟨some (.u8, (.ofNat 0), (.ofNat 255)), none, []⟩,
  ⟨some (.u64, (.ofNat 0), (.ofNat 2)), none, []⟩,
  ⟨some (.u8, (.ofNat 0), (.ofNat 2)), none, []⟩,
  z0,
  z0,
  z0,
  z0,
  z0,
  z0,
  z0,
  z0,
  z0,
  z0]
noncomputable def tab : List NInfo := (unionT tabS tabH)
noncomputable def crcs : List (List Value × Value) := [(z0w0, cn 4105),
  (z0w2, cn 4122)]
noncomputable abbrev base (a0 : Int) (a1 : Int) (x0 : Nat) (x1 : Nat) : List Value := [.int .i64 (.ofNat x0), .int .i64 a1, .int .i64 (.ofNat x1)]
noncomputable abbrev G (a0 : Int) (a1 : Int) (x0 : Nat) (x1 : Nat) : Sym := symL (mkVals ds (base a0 a1 x0 x1))
set_option maxRecDepth 100000 in
theorem refs_ok : refsAll ds 3 = true := by kernel_rfl
set_option maxRecDepth 100000 in
theorem nam_ok : namDs ds = true := by kernel_rfl
set_option maxRecDepth 100000 in
theorem len_ok : Nat.ble tab.length 4096 = true := by kernel_rfl
set_option maxRecDepth 100000 in
theorem crcs_ok : crcsB ds 3 crcs = true := by kernel_rfl
set_option maxRecDepth 100000 in
theorem sym_ok : symTab (ksOf ds [some .i64, some .i64, some .i64]) ds 3 tabS 0 = true := by kernel_rfl
theorem gb0 (a0 : Int) (a1 : Int) (x0 : Nat) (x1 : Nat) : G a0 a1 x0 x1 (4096 - 4096) = .int .i64 (.ofNat x0) := by
  show symL (mkVals ds (base a0 a1 x0 x1)) 0 = _
  rw [symL_low ds (base a0 a1 x0 x1) 0 (by simp)]
  rfl
theorem gb1 (a0 : Int) (a1 : Int) (x0 : Nat) (x1 : Nat) : G a0 a1 x0 x1 (4097 - 4096) = .int .i64 a1 := by
  show symL (mkVals ds (base a0 a1 x0 x1)) 1 = _
  rw [symL_low ds (base a0 a1 x0 x1) 1 (by simp)]
  rfl
theorem gb2 (a0 : Int) (a1 : Int) (x0 : Nat) (x1 : Nat) : G a0 a1 x0 x1 (4098 - 4096) = .int .i64 (.ofNat x1) := by
  show symL (mkVals ds (base a0 a1 x0 x1)) 2 = _
  rw [symL_low ds (base a0 a1 x0 x1) 2 (by simp)]
  rfl
theorem hv3 (a0 : Int) (a1 : Int) (x0 : Nat) (x1 : Nat) (h0 : 1 ≤ x0 ∧ x0 < 86401) (h1 : 1 ≤ x1 ∧ x1 < 100000) (r0 : x0 <= x1) : G a0 a1 x0 x1 (4099 - 4096) = .int .u64 (.ofNat x0) := by
  have hs : ds[0]? = some (.ent 39 (cn 4096) (bn 0)) := rfl
  have hd := mkVals_def (l := base a0 a1 x0 x1) hs (refsAll_get refs_ok hs)
  have hd : G a0 a1 x0 x1 3 = entE 39 (gv (G a0 a1 x0 x1) (cn 4096)) (gv (G a0 a1 x0 x1) (bn 0)) := hd
  rw [gv_chan 4096, gb0 a0 a1 x0 x1] at hd
  exact hd.trans (entE_conv (k' := .u64) (e_conv .i64 .u64 _ x0 x0 rfl (by show _ ≤ _; simp only [posMax]; omega)))
theorem hv4 (a0 : Int) (a1 : Int) (x0 : Nat) (x1 : Nat) (h0 : 1 ≤ x0 ∧ x0 < 86401) (h1 : 1 ≤ x1 ∧ x1 < 100000) (r0 : x0 <= x1) : G a0 a1 x0 x1 (4100 - 4096) = .int .u8 (.ofNat (x0 % 256)) := by
  have hs : ds[1]? = some (.ent 36 (cn 4099) (bn 0)) := rfl
  have hd := mkVals_def (l := base a0 a1 x0 x1) hs (refsAll_get refs_ok hs)
  have hd : G a0 a1 x0 x1 4 = entE 36 (gv (G a0 a1 x0 x1) (cn 4099)) (gv (G a0 a1 x0 x1) (bn 0)) := hd
  rw [gv_chan 4099, hv3 a0 a1 x0 x1 h0 h1 r0] at hd
  exact hd.trans (entE_conv (k' := .u8) (e_convm .u64 .u8 _ x0 (x0 % 256) rfl rfl))
theorem hv5 (a0 : Int) (a1 : Int) (x0 : Nat) (x1 : Nat) (h0 : 1 ≤ x0 ∧ x0 < 86401) (h1 : 1 ≤ x1 ∧ x1 < 100000) (r0 : x0 <= x1) : G a0 a1 x0 x1 (4101 - 4096) = .int .u64 (.ofNat (x0 / 256)) := by
  have hs : ds[2]? = some (.ent 9 (cn 4099) (jn 8)) := rfl
  have hd := mkVals_def (l := base a0 a1 x0 x1) hs (refsAll_get refs_ok hs)
  have hd : G a0 a1 x0 x1 5 = entE 9 (gv (G a0 a1 x0 x1) (cn 4099)) (gv (G a0 a1 x0 x1) (jn 8)) := hd
  rw [gv_chan 4099, hv3 a0 a1 x0 x1 h0 h1 r0] at hd
  exact hd.trans (entE_of (by decide) (e_shr .u64 .i64 x0 8 (x0 / 256) (by decide) rfl))
theorem hv6 (a0 : Int) (a1 : Int) (x0 : Nat) (x1 : Nat) (h0 : 1 ≤ x0 ∧ x0 < 86401) (h1 : 1 ≤ x1 ∧ x1 < 100000) (r0 : x0 <= x1) : G a0 a1 x0 x1 (4102 - 4096) = .int .u8 (.ofNat ((x0 / 256) % 256)) := by
  have hs : ds[3]? = some (.ent 36 (cn 4101) (bn 0)) := rfl
  have hd := mkVals_def (l := base a0 a1 x0 x1) hs (refsAll_get refs_ok hs)
  have hd : G a0 a1 x0 x1 6 = entE 36 (gv (G a0 a1 x0 x1) (cn 4101)) (gv (G a0 a1 x0 x1) (bn 0)) := hd
  rw [gv_chan 4101, hv5 a0 a1 x0 x1 h0 h1 r0] at hd
  exact hd.trans (entE_conv (k' := .u8) (e_convm .u64 .u8 _ (x0 / 256) ((x0 / 256) % 256) rfl rfl))
theorem hv7 (a0 : Int) (a1 : Int) (x0 : Nat) (x1 : Nat) (h0 : 1 ≤ x0 ∧ x0 < 86401) (h1 : 1 ≤ x1 ∧ x1 < 100000) (r0 : x0 <= x1) : G a0 a1 x0 x1 (4103 - 4096) = .int .u64 (.ofNat (x0 / 65536)) := by
  have hs : ds[4]? = some (.ent 9 (cn 4099) (jn 16)) := rfl
  have hd := mkVals_def (l := base a0 a1 x0 x1) hs (refsAll_get refs_ok hs)
  have hd : G a0 a1 x0 x1 7 = entE 9 (gv (G a0 a1 x0 x1) (cn 4099)) (gv (G a0 a1 x0 x1) (jn 16)) := hd
  rw [gv_chan 4099, hv3 a0 a1 x0 x1 h0 h1 r0] at hd
  exact hd.trans (entE_of (by decide) (e_shr .u64 .i64 x0 16 (x0 / 65536) (by decide) rfl))
theorem hv8 (a0 : Int) (a1 : Int) (x0 : Nat) (x1 : Nat) (h0 : 1 ≤ x0 ∧ x0 < 86401) (h1 : 1 ≤ x1 ∧ x1 < 100000) (r0 : x0 <= x1) : G a0 a1 x0 x1 (4104 - 4096) = .int .u8 (.ofNat (x0 / 65536)) := by
  have hs : ds[5]? = some (.ent 36 (cn 4103) (bn 0)) := rfl
  have hd := mkVals_def (l := base a0 a1 x0 x1) hs (refsAll_get refs_ok hs)
  have hd : G a0 a1 x0 x1 8 = entE 36 (gv (G a0 a1 x0 x1) (cn 4103)) (gv (G a0 a1 x0 x1) (bn 0)) := hd
  rw [gv_chan 4103, hv7 a0 a1 x0 x1 h0 h1 r0] at hd
  exact hd.trans (entE_conv (k' := .u8) (e_conv .u64 .u8 _ (x0 / 65536) (x0 / 65536) rfl (by show _ ≤ _; simp only [posMax]; omega)))
theorem hv19 (a0 : Int) (a1 : Int) (x0 : Nat) (x1 : Nat) (h0 : 1 ≤ x0 ∧ x0 < 86401) (h1 : 1 ≤ x1 ∧ x1 < 100000) (r0 : x0 <= x1) : G a0 a1 x0 x1 (4115 - 4096) = .int .i64 (.ofNat (x1 + x0)) := by
  have hs : ds[16]? = some (.ent 0 (cn 4098) (cn 4096)) := rfl
  have hd := mkVals_def (l := base a0 a1 x0 x1) hs (refsAll_get refs_ok hs)
  have hd : G a0 a1 x0 x1 19 = entE 0 (gv (G a0 a1 x0 x1) (cn 4098)) (gv (G a0 a1 x0 x1) (cn 4096)) := hd
  rw [gv_chan 4098, gb2 a0 a1 x0 x1, gv_chan 4096, gb0 a0 a1 x0 x1] at hd
  exact hd.trans (entE_of (by decide) (e_add .i64 x1 x0 (x1 + x0) rfl (by show _ ≤ _; simp only [posMax]; omega)))
theorem hv20 (a0 : Int) (a1 : Int) (x0 : Nat) (x1 : Nat) (h0 : 1 ≤ x0 ∧ x0 < 86401) (h1 : 1 ≤ x1 ∧ x1 < 100000) (r0 : x0 <= x1) : G a0 a1 x0 x1 (4116 - 4096) = .int .u64 (.ofNat (x1 + x0)) := by
  have hs : ds[17]? = some (.ent 39 (cn 4115) (bn 0)) := rfl
  have hd := mkVals_def (l := base a0 a1 x0 x1) hs (refsAll_get refs_ok hs)
  have hd : G a0 a1 x0 x1 20 = entE 39 (gv (G a0 a1 x0 x1) (cn 4115)) (gv (G a0 a1 x0 x1) (bn 0)) := hd
  rw [gv_chan 4115, hv19 a0 a1 x0 x1 h0 h1 r0] at hd
  exact hd.trans (entE_conv (k' := .u64) (e_conv .i64 .u64 _ (x1 + x0) (x1 + x0) rfl (by show _ ≤ _; simp only [posMax]; omega)))
theorem hv21 (a0 : Int) (a1 : Int) (x0 : Nat) (x1 : Nat) (h0 : 1 ≤ x0 ∧ x0 < 86401) (h1 : 1 ≤ x1 ∧ x1 < 100000) (r0 : x0 <= x1) : G a0 a1 x0 x1 (4117 - 4096) = .int .u8 (.ofNat ((x1 + x0) % 256)) := by
  have hs : ds[18]? = some (.ent 36 (cn 4116) (bn 0)) := rfl
  have hd := mkVals_def (l := base a0 a1 x0 x1) hs (refsAll_get refs_ok hs)
  have hd : G a0 a1 x0 x1 21 = entE 36 (gv (G a0 a1 x0 x1) (cn 4116)) (gv (G a0 a1 x0 x1) (bn 0)) := hd
  rw [gv_chan 4116, hv20 a0 a1 x0 x1 h0 h1 r0] at hd
  exact hd.trans (entE_conv (k' := .u8) (e_convm .u64 .u8 _ (x1 + x0) ((x1 + x0) % 256) rfl rfl))
theorem hv22 (a0 : Int) (a1 : Int) (x0 : Nat) (x1 : Nat) (h0 : 1 ≤ x0 ∧ x0 < 86401) (h1 : 1 ≤ x1 ∧ x1 < 100000) (r0 : x0 <= x1) : G a0 a1 x0 x1 (4118 - 4096) = .int .u64 (.ofNat ((x1 + x0) / 256)) := by
  have hs : ds[19]? = some (.ent 9 (cn 4116) (jn 8)) := rfl
  have hd := mkVals_def (l := base a0 a1 x0 x1) hs (refsAll_get refs_ok hs)
  have hd : G a0 a1 x0 x1 22 = entE 9 (gv (G a0 a1 x0 x1) (cn 4116)) (gv (G a0 a1 x0 x1) (jn 8)) := hd
  rw [gv_chan 4116, hv20 a0 a1 x0 x1 h0 h1 r0] at hd
  exact hd.trans (entE_of (by decide) (e_shr .u64 .i64 (x1 + x0) 8 ((x1 + x0) / 256) (by decide) rfl))
theorem hv23 (a0 : Int) (a1 : Int) (x0 : Nat) (x1 : Nat) (h0 : 1 ≤ x0 ∧ x0 < 86401) (h1 : 1 ≤ x1 ∧ x1 < 100000) (r0 : x0 <= x1) : G a0 a1 x0 x1 (4119 - 4096) = .int .u8 (.ofNat (((x1 + x0) / 256) % 256)) := by
  have hs : ds[20]? = some (.ent 36 (cn 4118) (bn 0)) := rfl
  have hd := mkVals_def (l := base a0 a1 x0 x1) hs (refsAll_get refs_ok hs)
  have hd : G a0 a1 x0 x1 23 = entE 36 (gv (G a0 a1 x0 x1) (cn 4118)) (gv (G a0 a1 x0 x1) (bn 0)) := hd
  rw [gv_chan 4118, hv22 a0 a1 x0 x1 h0 h1 r0] at hd
  exact hd.trans (entE_conv (k' := .u8) (e_convm .u64 .u8 _ ((x1 + x0) / 256) (((x1 + x0) / 256) % 256) rfl rfl))
theorem hv24 (a0 : Int) (a1 : Int) (x0 : Nat) (x1 : Nat) (h0 : 1 ≤ x0 ∧ x0 < 86401) (h1 : 1 ≤ x1 ∧ x1 < 100000) (r0 : x0 <= x1) : G a0 a1 x0 x1 (4120 - 4096) = .int .u64 (.ofNat ((x1 + x0) / 65536)) := by
  have hs : ds[21]? = some (.ent 9 (cn 4116) (jn 16)) := rfl
  have hd := mkVals_def (l := base a0 a1 x0 x1) hs (refsAll_get refs_ok hs)
  have hd : G a0 a1 x0 x1 24 = entE 9 (gv (G a0 a1 x0 x1) (cn 4116)) (gv (G a0 a1 x0 x1) (jn 16)) := hd
  rw [gv_chan 4116, hv20 a0 a1 x0 x1 h0 h1 r0] at hd
  exact hd.trans (entE_of (by decide) (e_shr .u64 .i64 (x1 + x0) 16 ((x1 + x0) / 65536) (by decide) rfl))
theorem hv25 (a0 : Int) (a1 : Int) (x0 : Nat) (x1 : Nat) (h0 : 1 ≤ x0 ∧ x0 < 86401) (h1 : 1 ≤ x1 ∧ x1 < 100000) (r0 : x0 <= x1) : G a0 a1 x0 x1 (4121 - 4096) = .int .u8 (.ofNat ((x1 + x0) / 65536)) := by
  have hs : ds[22]? = some (.ent 36 (cn 4120) (bn 0)) := rfl
  have hd := mkVals_def (l := base a0 a1 x0 x1) hs (refsAll_get refs_ok hs)
  have hd : G a0 a1 x0 x1 25 = entE 36 (gv (G a0 a1 x0 x1) (cn 4120)) (gv (G a0 a1 x0 x1) (bn 0)) := hd
  rw [gv_chan 4120, hv24 a0 a1 x0 x1 h0 h1 r0] at hd
  exact hd.trans (entE_conv (k' := .u8) (e_conv .u64 .u8 _ ((x1 + x0) / 65536) ((x1 + x0) / 65536) rfl (by show _ ≤ _; simp only [posMax]; omega)))
theorem tabH_0 (a0 : Int) (a1 : Int) (x0 : Nat) (x1 : Nat) (h0 : 1 ≤ x0 ∧ x0 < 86401) (h1 : 1 ≤ x1 ∧ x1 < 100000) (r0 : x0 <= x1) (w0 : -9223372036854775808 ≤ a0 ∧ a0 ≤ 9223372036854775807) (w1 : -9223372036854775808 ≤ a1 ∧ a1 ≤ 9223372036854775807) : InfoOk (G a0 a1 x0 x1) 0 ⟨some (.i64, (.ofNat 1), (.ofNat 86400)), none, [⟨14, cn 4096, cn 4096, .bool true⟩, ⟨0, jn 0, cn 4096, cn 4096⟩, ⟨12, cn 4096, cn 4096, .bool false⟩]⟩ := (infoOk_cons rfl rfl rfl (by rw [gv_chan 4096, gb0 a0 a1 x0 x1]; exact e_leq .i64 (.ofNat x0) (.ofNat x0) true (decide_eq_true (by first | (simp only [Int.ofNat_eq_natCast, ne_eq]; omega) | omega | simp))) (infoOk_cons rfl rfl rfl (by rw [gv_chan 4096, gb0 a0 a1 x0 x1]; exact e_add .i64 0 x0 x0 (by omega) (by show _ ≤ _; simp only [posMax]; omega)) (infoOk_cons rfl rfl rfl (by rw [gv_chan 4096, gb0 a0 a1 x0 x1]; exact e_neq .i64 (.ofNat x0) (.ofNat x0) false (decide_eq_false (by first | (simp only [Int.ofNat_eq_natCast, ne_eq]; omega) | omega | simp))) (infoOk_rng (gb0 a0 a1 x0 x1) (by simp only [Int.ofNat_eq_natCast]; omega) (by simp only [Int.ofNat_eq_natCast]; omega)))))
theorem tabH_2 (a0 : Int) (a1 : Int) (x0 : Nat) (x1 : Nat) (h0 : 1 ≤ x0 ∧ x0 < 86401) (h1 : 1 ≤ x1 ∧ x1 < 100000) (r0 : x0 <= x1) (w0 : -9223372036854775808 ≤ a0 ∧ a0 ≤ 9223372036854775807) (w1 : -9223372036854775808 ≤ a1 ∧ a1 ≤ 9223372036854775807) : InfoOk (G a0 a1 x0 x1) 2 ⟨some (.i64, (.ofNat 1), (.ofNat 99999)), none, [⟨0, jn 0, cn 4098, cn 4098⟩, ⟨13, cn 4098, cn 4096, .bool false⟩]⟩ := (infoOk_cons rfl rfl rfl (by rw [gv_chan 4098, gb2 a0 a1 x0 x1]; exact e_add .i64 0 x1 x1 (by omega) (by show _ ≤ _; simp only [posMax]; omega)) (infoOk_cons rfl rfl rfl (by rw [gv_chan 4098, gb2 a0 a1 x0 x1, gv_chan 4096, gb0 a0 a1 x0 x1]; exact e_lss .i64 (.ofNat x1) (.ofNat x0) false (decide_eq_false (by first | (simp only [Int.ofNat_eq_natCast, ne_eq]; omega) | omega | simp))) (infoOk_rng (gb2 a0 a1 x0 x1) (by simp only [Int.ofNat_eq_natCast]; omega) (by simp only [Int.ofNat_eq_natCast]; omega))))
theorem tabH_3 (a0 : Int) (a1 : Int) (x0 : Nat) (x1 : Nat) (h0 : 1 ≤ x0 ∧ x0 < 86401) (h1 : 1 ≤ x1 ∧ x1 < 100000) (r0 : x0 <= x1) (w0 : -9223372036854775808 ≤ a0 ∧ a0 ≤ 9223372036854775807) (w1 : -9223372036854775808 ≤ a1 ∧ a1 ≤ 9223372036854775807) : InfoOk (G a0 a1 x0 x1) 3 ⟨some (.u64, (.ofNat 1), (.ofNat 86400)), none, [⟨9, cn 4099, jn 0, cn 4099⟩, ⟨9, cn 4099, jn 24, .int .u64 (.ofNat 0)⟩, ⟨9, cn 4099, jn 32, .int .u64 (.ofNat 0)⟩, ⟨9, cn 4099, jn 40, .int .u64 (.ofNat 0)⟩, ⟨9, cn 4099, jn 48, .int .u64 (.ofNat 0)⟩, ⟨9, cn 4099, jn 56, .int .u64 (.ofNat 0)⟩]⟩ := (infoOk_cons rfl rfl rfl (by rw [gv_chan 4099, hv3 a0 a1 x0 x1 h0 h1 r0]; exact e_shr .u64 .i64 x0 0 x0 (by decide) (by omega)) (infoOk_cons rfl rfl rfl (by rw [gv_chan 4099, hv3 a0 a1 x0 x1 h0 h1 r0]; exact e_shr .u64 .i64 x0 24 0 (by decide) (by omega)) (infoOk_cons rfl rfl rfl (by rw [gv_chan 4099, hv3 a0 a1 x0 x1 h0 h1 r0]; exact e_shr .u64 .i64 x0 32 0 (by decide) (by omega)) (infoOk_cons rfl rfl rfl (by rw [gv_chan 4099, hv3 a0 a1 x0 x1 h0 h1 r0]; exact e_shr .u64 .i64 x0 40 0 (by decide) (by omega)) (infoOk_cons rfl rfl rfl (by rw [gv_chan 4099, hv3 a0 a1 x0 x1 h0 h1 r0]; exact e_shr .u64 .i64 x0 48 0 (by decide) (by omega)) (infoOk_cons rfl rfl rfl (by rw [gv_chan 4099, hv3 a0 a1 x0 x1 h0 h1 r0]; exact e_shr .u64 .i64 x0 56 0 (by decide) (by omega)) (infoOk_rng (hv3 a0 a1 x0 x1 h0 h1 r0) (by simp only [Int.ofNat_eq_natCast]; omega) (by simp only [Int.ofNat_eq_natCast]; omega))))))))
theorem tabH_4 (a0 : Int) (a1 : Int) (x0 : Nat) (x1 : Nat) (h0 : 1 ≤ x0 ∧ x0 < 86401) (h1 : 1 ≤ x1 ∧ x1 < 100000) (r0 : x0 <= x1) (w0 : -9223372036854775808 ≤ a0 ∧ a0 ≤ 9223372036854775807) (w1 : -9223372036854775808 ≤ a1 ∧ a1 ≤ 9223372036854775807) : InfoOk (G a0 a1 x0 x1) 4 ⟨some (.u8, (.ofNat 0), (.ofNat 255)), none, []⟩ := (infoOk_rng (hv4 a0 a1 x0 x1 h0 h1 r0) (by simp only [Int.ofNat_eq_natCast]; omega) (by simp only [Int.ofNat_eq_natCast]; omega))
theorem tabH_5 (a0 : Int) (a1 : Int) (x0 : Nat) (x1 : Nat) (h0 : 1 ≤ x0 ∧ x0 < 86401) (h1 : 1 ≤ x1 ∧ x1 < 100000) (r0 : x0 <= x1) (w0 : -9223372036854775808 ≤ a0 ∧ a0 ≤ 9223372036854775807) (w1 : -9223372036854775808 ≤ a1 ∧ a1 ≤ 9223372036854775807) : InfoOk (G a0 a1 x0 x1) 5 ⟨some (.u64, (.ofNat 0), (.ofNat 337)), none, []⟩ := (infoOk_rng (hv5 a0 a1 x0 x1 h0 h1 r0) (by simp only [Int.ofNat_eq_natCast]; omega) (by simp only [Int.ofNat_eq_natCast]; omega))
theorem tabH_6 (a0 : Int) (a1 : Int) (x0 : Nat) (x1 : Nat) (h0 : 1 ≤ x0 ∧ x0 < 86401) (h1 : 1 ≤ x1 ∧ x1 < 100000) (r0 : x0 <= x1) (w0 : -9223372036854775808 ≤ a0 ∧ a0 ≤ 9223372036854775807) (w1 : -9223372036854775808 ≤ a1 ∧ a1 ≤ 9223372036854775807) : InfoOk (G a0 a1 x0 x1) 6 ⟨some (.u8, (.ofNat 0), (.ofNat 255)), none, []⟩ := (infoOk_rng (hv6 a0 a1 x0 x1 h0 h1 r0) (by simp only [Int.ofNat_eq_natCast]; omega) (by simp only [Int.ofNat_eq_natCast]; omega))
theorem tabH_7 (a0 : Int) (a1 : Int) (x0 : Nat) (x1 : Nat) (h0 : 1 ≤ x0 ∧ x0 < 86401) (h1 : 1 ≤ x1 ∧ x1 < 100000) (r0 : x0 <= x1) (w0 : -9223372036854775808 ≤ a0 ∧ a0 ≤ 9223372036854775807) (w1 : -9223372036854775808 ≤ a1 ∧ a1 ≤ 9223372036854775807) : InfoOk (G a0 a1 x0 x1) 7 ⟨some (.u64, (.ofNat 0), (.ofNat 1)), none, []⟩ := (infoOk_rng (hv7 a0 a1 x0 x1 h0 h1 r0) (by simp only [Int.ofNat_eq_natCast]; omega) (by simp only [Int.ofNat_eq_natCast]; omega))
theorem tabH_8 (a0 : Int) (a1 : Int) (x0 : Nat) (x1 : Nat) (h0 : 1 ≤ x0 ∧ x0 < 86401) (h1 : 1 ≤ x1 ∧ x1 < 100000) (r0 : x0 <= x1) (w0 : -9223372036854775808 ≤ a0 ∧ a0 ≤ 9223372036854775807) (w1 : -9223372036854775808 ≤ a1 ∧ a1 ≤ 9223372036854775807) : InfoOk (G a0 a1 x0 x1) 8 ⟨some (.u8, (.ofNat 0), (.ofNat 1)), none, []⟩ := (infoOk_rng (hv8 a0 a1 x0 x1 h0 h1 r0) (by simp only [Int.ofNat_eq_natCast]; omega) (by simp only [Int.ofNat_eq_natCast]; omega))
theorem tabH_19 (a0 : Int) (a1 : Int) (x0 : Nat) (x1 : Nat) (h0 : 1 ≤ x0 ∧ x0 < 86401) (h1 : 1 ≤ x1 ∧ x1 < 100000) (r0 : x0 <= x1) (w0 : -9223372036854775808 ≤ a0 ∧ a0 ≤ 9223372036854775807) (w1 : -9223372036854775808 ≤ a1 ∧ a1 ≤ 9223372036854775807) : InfoOk (G a0 a1 x0 x1) 19 ⟨some (.i64, (.ofNat 2), (.ofNat 186399)), none, []⟩ := (infoOk_rng (hv19 a0 a1 x0 x1 h0 h1 r0) (by simp only [Int.ofNat_eq_natCast]; omega) (by simp only [Int.ofNat_eq_natCast]; omega))
theorem tabH_20 (a0 : Int) (a1 : Int) (x0 : Nat) (x1 : Nat) (h0 : 1 ≤ x0 ∧ x0 < 86401) (h1 : 1 ≤ x1 ∧ x1 < 100000) (r0 : x0 <= x1) (w0 : -9223372036854775808 ≤ a0 ∧ a0 ≤ 9223372036854775807) (w1 : -9223372036854775808 ≤ a1 ∧ a1 ≤ 9223372036854775807) : InfoOk (G a0 a1 x0 x1) 20 ⟨some (.u64, (.ofNat 2), (.ofNat 186399)), none, [⟨9, cn 4116, jn 0, cn 4116⟩, ⟨9, cn 4116, jn 24, .int .u64 (.ofNat 0)⟩, ⟨9, cn 4116, jn 32, .int .u64 (.ofNat 0)⟩, ⟨9, cn 4116, jn 40, .int .u64 (.ofNat 0)⟩, ⟨9, cn 4116, jn 48, .int .u64 (.ofNat 0)⟩, ⟨9, cn 4116, jn 56, .int .u64 (.ofNat 0)⟩]⟩ := (infoOk_cons rfl rfl rfl (by rw [gv_chan 4116, hv20 a0 a1 x0 x1 h0 h1 r0]; exact e_shr .u64 .i64 (x1 + x0) 0 (x1 + x0) (by decide) (by omega)) (infoOk_cons rfl rfl rfl (by rw [gv_chan 4116, hv20 a0 a1 x0 x1 h0 h1 r0]; exact e_shr .u64 .i64 (x1 + x0) 24 0 (by decide) (by omega)) (infoOk_cons rfl rfl rfl (by rw [gv_chan 4116, hv20 a0 a1 x0 x1 h0 h1 r0]; exact e_shr .u64 .i64 (x1 + x0) 32 0 (by decide) (by omega)) (infoOk_cons rfl rfl rfl (by rw [gv_chan 4116, hv20 a0 a1 x0 x1 h0 h1 r0]; exact e_shr .u64 .i64 (x1 + x0) 40 0 (by decide) (by omega)) (infoOk_cons rfl rfl rfl (by rw [gv_chan 4116, hv20 a0 a1 x0 x1 h0 h1 r0]; exact e_shr .u64 .i64 (x1 + x0) 48 0 (by decide) (by omega)) (infoOk_cons rfl rfl rfl (by rw [gv_chan 4116, hv20 a0 a1 x0 x1 h0 h1 r0]; exact e_shr .u64 .i64 (x1 + x0) 56 0 (by decide) (by omega)) (infoOk_rng (hv20 a0 a1 x0 x1 h0 h1 r0) (by simp only [Int.ofNat_eq_natCast]; omega) (by simp only [Int.ofNat_eq_natCast]; omega))))))))
theorem tabH_21 (a0 : Int) (a1 : Int) (x0 : Nat) (x1 : Nat) (h0 : 1 ≤ x0 ∧ x0 < 86401) (h1 : 1 ≤ x1 ∧ x1 < 100000) (r0 : x0 <= x1) (w0 : -9223372036854775808 ≤ a0 ∧ a0 ≤ 9223372036854775807) (w1 : -9223372036854775808 ≤ a1 ∧ a1 ≤ 9223372036854775807) : InfoOk (G a0 a1 x0 x1) 21 ⟨some (.u8, (.ofNat 0), (.ofNat 255)), none, []⟩ := (infoOk_rng (hv21 a0 a1 x0 x1 h0 h1 r0) (by simp only [Int.ofNat_eq_natCast]; omega) (by simp only [Int.ofNat_eq_natCast]; omega))
theorem tabH_22 (a0 : Int) (a1 : Int) (x0 : Nat) (x1 : Nat) (h0 : 1 ≤ x0 ∧ x0 < 86401) (h1 : 1 ≤ x1 ∧ x1 < 100000) (r0 : x0 <= x1) (w0 : -9223372036854775808 ≤ a0 ∧ a0 ≤ 9223372036854775807) (w1 : -9223372036854775808 ≤ a1 ∧ a1 ≤ 9223372036854775807) : InfoOk (G a0 a1 x0 x1) 22 ⟨some (.u64, (.ofNat 0), (.ofNat 728)), none, []⟩ := (infoOk_rng (hv22 a0 a1 x0 x1 h0 h1 r0) (by simp only [Int.ofNat_eq_natCast]; omega) (by simp only [Int.ofNat_eq_natCast]; omega))
theorem tabH_23 (a0 : Int) (a1 : Int) (x0 : Nat) (x1 : Nat) (h0 : 1 ≤ x0 ∧ x0 < 86401) (h1 : 1 ≤ x1 ∧ x1 < 100000) (r0 : x0 <= x1) (w0 : -9223372036854775808 ≤ a0 ∧ a0 ≤ 9223372036854775807) (w1 : -9223372036854775808 ≤ a1 ∧ a1 ≤ 9223372036854775807) : InfoOk (G a0 a1 x0 x1) 23 ⟨some (.u8, (.ofNat 0), (.ofNat 255)), none, []⟩ := (infoOk_rng (hv23 a0 a1 x0 x1 h0 h1 r0) (by simp only [Int.ofNat_eq_natCast]; omega) (by simp only [Int.ofNat_eq_natCast]; omega))
theorem tabH_24 (a0 : Int) (a1 : Int) (x0 : Nat) (x1 : Nat) (h0 : 1 ≤ x0 ∧ x0 < 86401) (h1 : 1 ≤ x1 ∧ x1 < 100000) (r0 : x0 <= x1) (w0 : -9223372036854775808 ≤ a0 ∧ a0 ≤ 9223372036854775807) (w1 : -9223372036854775808 ≤ a1 ∧ a1 ≤ 9223372036854775807) : InfoOk (G a0 a1 x0 x1) 24 ⟨some (.u64, (.ofNat 0), (.ofNat 2)), none, []⟩ := (infoOk_rng (hv24 a0 a1 x0 x1 h0 h1 r0) (by simp only [Int.ofNat_eq_natCast]; omega) (by simp only [Int.ofNat_eq_natCast]; omega))
theorem tabH_25 (a0 : Int) (a1 : Int) (x0 : Nat) (x1 : Nat) (h0 : 1 ≤ x0 ∧ x0 < 86401) (h1 : 1 ≤ x1 ∧ x1 < 100000) (r0 : x0 <= x1) (w0 : -9223372036854775808 ≤ a0 ∧ a0 ≤ 9223372036854775807) (w1 : -9223372036854775808 ≤ a1 ∧ a1 ≤ 9223372036854775807) : InfoOk (G a0 a1 x0 x1) 25 ⟨some (.u8, (.ofNat 0), (.ofNat 2)), none, []⟩ := (infoOk_rng (hv25 a0 a1 x0 x1 h0 h1 r0) (by simp only [Int.ofNat_eq_natCast]; omega) (by simp only [Int.ofNat_eq_natCast]; omega))
theorem tabH_ok (a0 : Int) (a1 : Int) (x0 : Nat) (x1 : Nat) (h0 : 1 ≤ x0 ∧ x0 < 86401) (h1 : 1 ≤ x1 ∧ x1 < 100000) (r0 : x0 <= x1) (w0 : -9223372036854775808 ≤ a0 ∧ a0 ≤ 9223372036854775807) (w1 : -9223372036854775808 ≤ a1 ∧ a1 ≤ 9223372036854775807) : TabOk (G a0 a1 x0 x1) tabH := by
  intro j f hf
  match j, hf with
  | 0, hf => obtain rfl := Option.some.inj (show some (⟨some (.i64, (.ofNat 1), (.ofNat 86400)), none, [⟨14, cn 4096, cn 4096, .bool true⟩, ⟨0, jn 0, cn 4096, cn 4096⟩, ⟨12, cn 4096, cn 4096, .bool false⟩]⟩ : NInfo) = some f from hf); exact tabH_0 a0 a1 x0 x1 h0 h1 r0 w0 w1 
  | 1, hf => obtain rfl := Option.some.inj (show some (z0 : NInfo) = some f from hf); exact infoOk_nil
  | 2, hf => obtain rfl := Option.some.inj (show some (⟨some (.i64, (.ofNat 1), (.ofNat 99999)), none, [⟨0, jn 0, cn 4098, cn 4098⟩, ⟨13, cn 4098, cn 4096, .bool false⟩]⟩ : NInfo) = some f from hf); exact tabH_2 a0 a1 x0 x1 h0 h1 r0 w0 w1 
  | 3, hf => obtain rfl := Option.some.inj (show some (⟨some (.u64, (.ofNat 1), (.ofNat 86400)), none, [⟨9, cn 4099, jn 0, cn 4099⟩, ⟨9, cn 4099, jn 24, .int .u64 (.ofNat 0)⟩, ⟨9, cn 4099, jn 32, .int .u64 (.ofNat 0)⟩, ⟨9, cn 4099, jn 40, .int .u64 (.ofNat 0)⟩, ⟨9, cn 4099, jn 48, .int .u64 (.ofNat 0)⟩, ⟨9, cn 4099, jn 56, .int .u64 (.ofNat 0)⟩]⟩ : NInfo) = some f from hf); exact tabH_3 a0 a1 x0 x1 h0 h1 r0 w0 w1 
  | 4, hf => obtain rfl := Option.some.inj (show some (⟨some (.u8, (.ofNat 0), (.ofNat 255)), none, []⟩ : NInfo) = some f from hf); exact tabH_4 a0 a1 x0 x1 h0 h1 r0 w0 w1 
  | 5, hf => obtain rfl := Option.some.inj (show some (⟨some (.u64, (.ofNat 0), (.ofNat 337)), none, []⟩ : NInfo) = some f from hf); exact tabH_5 a0 a1 x0 x1 h0 h1 r0 w0 w1 
  | 6, hf => obtain rfl := Option.some.inj (show some (⟨some (.u8, (.ofNat 0), (.ofNat 255)), none, []⟩ : NInfo) = some f from hf); exact tabH_6 a0 a1 x0 x1 h0 h1 r0 w0 w1 
  | 7, hf => obtain rfl := Option.some.inj (show some (⟨some (.u64, (.ofNat 0), (.ofNat 1)), none, []⟩ : NInfo) = some f from hf); exact tabH_7 a0 a1 x0 x1 h0 h1 r0 w0 w1 
  | 8, hf => obtain rfl := Option.some.inj (show some (⟨some (.u8, (.ofNat 0), (.ofNat 1)), none, []⟩ : NInfo) = some f from hf); exact tabH_8 a0 a1 x0 x1 h0 h1 r0 w0 w1 
  | 9, hf => obtain rfl := Option.some.inj (show some (z0 : NInfo) = some f from hf); exact infoOk_nil
  | 10, hf => obtain rfl := Option.some.inj (show some (z0 : NInfo) = some f from hf); exact infoOk_nil
  | 11, hf => obtain rfl := Option.some.inj (show some (z0 : NInfo) = some f from hf); exact infoOk_nil
  | 12, hf => obtain rfl := Option.some.inj (show some (z0 : NInfo) = some f from hf); exact infoOk_nil
  | 13, hf => obtain rfl := Option.some.inj (show some (z0 : NInfo) = some f from hf); exact infoOk_nil
  | 14, hf => obtain rfl := Option.some.inj (show some (z0 : NInfo) = some f from hf); exact infoOk_nil
  | 15, hf => obtain rfl := Option.some.inj (show some (z0 : NInfo) = some f from hf); exact infoOk_nil
  | 16, hf => obtain rfl := Option.some.inj (show some (z0 : NInfo) = some f from hf); exact infoOk_nil
  | 17, hf => obtain rfl := Option.some.inj (show some (z0 : NInfo) = some f from hf); exact infoOk_nil
  | 18, hf => obtain rfl := Option.some.inj (show some (z0 : NInfo) = some f from hf); exact infoOk_nil
  | 19, hf => obtain rfl := Option.some.inj (show some (⟨some (.i64, (.ofNat 2), (.ofNat 186399)), none, []⟩ : NInfo) = some f from hf); exact tabH_19 a0 a1 x0 x1 h0 h1 r0 w0 w1 
  | 20, hf => obtain rfl := Option.some.inj (show some (⟨some (.u64, (.ofNat 2), (.ofNat 186399)), none, [⟨9, cn 4116, jn 0, cn 4116⟩, ⟨9, cn 4116, jn 24, .int .u64 (.ofNat 0)⟩, ⟨9, cn 4116, jn 32, .int .u64 (.ofNat 0)⟩, ⟨9, cn 4116, jn 40, .int .u64 (.ofNat 0)⟩, ⟨9, cn 4116, jn 48, .int .u64 (.ofNat 0)⟩, ⟨9, cn 4116, jn 56, .int .u64 (.ofNat 0)⟩]⟩ : NInfo) = some f from hf); exact tabH_20 a0 a1 x0 x1 h0 h1 r0 w0 w1 
  | 21, hf => obtain rfl := Option.some.inj (show some (⟨some (.u8, (.ofNat 0), (.ofNat 255)), none, []⟩ : NInfo) = some f from hf); exact tabH_21 a0 a1 x0 x1 h0 h1 r0 w0 w1 
  | 22, hf => obtain rfl := Option.some.inj (show some (⟨some (.u64, (.ofNat 0), (.ofNat 728)), none, []⟩ : NInfo) = some f from hf); exact tabH_22 a0 a1 x0 x1 h0 h1 r0 w0 w1 
  | 23, hf => obtain rfl := Option.some.inj (show some (⟨some (.u8, (.ofNat 0), (.ofNat 255)), none, []⟩ : NInfo) = some f from hf); exact tabH_23 a0 a1 x0 x1 h0 h1 r0 w0 w1 
  | 24, hf => obtain rfl := Option.some.inj (show some (⟨some (.u64, (.ofNat 0), (.ofNat 2)), none, []⟩ : NInfo) = some f from hf); exact tabH_24 a0 a1 x0 x1 h0 h1 r0 w0 w1 
  | 25, hf => obtain rfl := Option.some.inj (show some (⟨some (.u8, (.ofNat 0), (.ofNat 2)), none, []⟩ : NInfo) = some f from hf); exact tabH_25 a0 a1 x0 x1 h0 h1 r0 w0 w1 
  | 26, hf => obtain rfl := Option.some.inj (show some (z0 : NInfo) = some f from hf); exact infoOk_nil
  | 27, hf => obtain rfl := Option.some.inj (show some (z0 : NInfo) = some f from hf); exact infoOk_nil
  | 28, hf => obtain rfl := Option.some.inj (show some (z0 : NInfo) = some f from hf); exact infoOk_nil
  | 29, hf => obtain rfl := Option.some.inj (show some (z0 : NInfo) = some f from hf); exact infoOk_nil
  | 30, hf => obtain rfl := Option.some.inj (show some (z0 : NInfo) = some f from hf); exact infoOk_nil
  | 31, hf => obtain rfl := Option.some.inj (show some (z0 : NInfo) = some f from hf); exact infoOk_nil
  | 32, hf => obtain rfl := Option.some.inj (show some (z0 : NInfo) = some f from hf); exact infoOk_nil
  | 33, hf => obtain rfl := Option.some.inj (show some (z0 : NInfo) = some f from hf); exact infoOk_nil
  | 34, hf => obtain rfl := Option.some.inj (show some (z0 : NInfo) = some f from hf); exact infoOk_nil
  | 35, hf => obtain rfl := Option.some.inj (show some (z0 : NInfo) = some f from hf); exact infoOk_nil
  | n + 36, hf => exact absurd hf (by simp [tabH])
theorem kinv (a0 : Int) (a1 : Int) (x0 : Nat) (x1 : Nat) (h0 : 1 ≤ x0 ∧ x0 < 86401) (h1 : 1 ≤ x1 ∧ x1 < 100000) (w0 : -9223372036854775808 ≤ a0 ∧ a0 ≤ 9223372036854775807) (w1 : -9223372036854775808 ≤ a1 ∧ a1 ≤ 9223372036854775807) : KInv (symL (base a0 a1 x0 x1)) [some .i64, some .i64, some .i64] := by
  intro i k hi
  match i, hi with
  | 0, hi => cases hi; exact ⟨.ofNat x0, rfl, by rw [inK_iff]; show (-9223372036854775808 : Int) ≤ (x0 : Int) ∧ (x0 : Int) ≤ 9223372036854775807; omega⟩
  | 1, hi => cases hi; exact ⟨a1, rfl, by rw [inK_iff]; exact w1⟩
  | 2, hi => cases hi; exact ⟨.ofNat x1, rfl, by rw [inK_iff]; show (-9223372036854775808 : Int) ≤ (x1 : Int) ∧ (x1 : Int) ≤ 9223372036854775807; omega⟩
  | n + 3, hi => cases hi
theorem named_ok (a0 : Int) (a1 : Int) (x0 : Nat) (x1 : Nat) (i : Nat) : named (G a0 a1 x0 x1 i) := symL_named' (mkVals_named (by intro v hv; simp only [base, List.mem_cons, List.not_mem_nil, or_false] at hv; rcases hv with rfl | rfl | rfl <;> trivial) nam_ok) i
theorem names_ok (a0 : Int) (a1 : Int) (x0 : Nat) (x1 : Nat) (h0 : 1 ≤ x0 ∧ x0 < 86401) (h1 : 1 ≤ x1 ∧ x1 < 100000) (r0 : x0 <= x1) (w0 : -9223372036854775808 ≤ a0 ∧ a0 ≤ 9223372036854775807) (w1 : -9223372036854775808 ≤ a1 ∧ a1 ≤ 9223372036854775807) : NamesOk (G a0 a1 x0 x1) (Names.ofL tab) := namesOk_parts (named_ok a0 a1 x0 x1) len_ok (TabOk.union (symTab_part (l := base a0 a1 x0 x1) rfl (kinv a0 a1 x0 x1 h0 h1 w0 w1) refs_ok sym_ok) (tabH_ok a0 a1 x0 x1 h0 h1 r0 w0 w1 ))
theorem crc_ok (a0 : Int) (a1 : Int) (x0 : Nat) (x1 : Nat) : CrcOk (G a0 a1 x0 x1) crcs := crcsB_ok (l := base a0 a1 x0 x1) refs_ok crcs_ok
end Go.Proofs.YtemmgompegkgkaaGreatDoor.toplife.mg
namespace Go.Proofs.YtemmgompegkgkaaGreatDoor.toplife.b0
open Go Vai
set_option linter.unusedVariables false
set_option linter.unusedSimpArgs false
noncomputable def ds : List NDef := []
noncomputable def tabH : List NInfo := [⟨some (.i64, (.ofNat 86401), (.ofNat 9223372036854775807)), none, [⟨14, cn 4096, cn 4096, .bool true⟩]⟩,
  z0]
noncomputable def tab : List NInfo := tabH
noncomputable def crcs : List (List Value × Value) := []
noncomputable abbrev base (a0 : Int) (a1 : Int) (x0 : Nat) : List Value := [.int .i64 (.ofNat x0), .int .i64 a1]
noncomputable abbrev G (a0 : Int) (a1 : Int) (x0 : Nat) : Sym := symL (mkVals ds (base a0 a1 x0))
set_option maxRecDepth 100000 in
theorem refs_ok : refsAll ds 2 = true := by kernel_rfl
set_option maxRecDepth 100000 in
theorem nam_ok : namDs ds = true := by kernel_rfl
set_option maxRecDepth 100000 in
theorem len_ok : Nat.ble tab.length 4096 = true := by kernel_rfl
set_option maxRecDepth 100000 in
theorem crcs_ok : crcsB ds 2 crcs = true := by kernel_rfl
theorem gb0 (a0 : Int) (a1 : Int) (x0 : Nat) : G a0 a1 x0 (4096 - 4096) = .int .i64 (.ofNat x0) := by
  show symL (mkVals ds (base a0 a1 x0)) 0 = _
  rw [symL_low ds (base a0 a1 x0) 0 (by simp)]
  rfl
theorem gb1 (a0 : Int) (a1 : Int) (x0 : Nat) : G a0 a1 x0 (4097 - 4096) = .int .i64 a1 := by
  show symL (mkVals ds (base a0 a1 x0)) 1 = _
  rw [symL_low ds (base a0 a1 x0) 1 (by simp)]
  rfl
theorem tabH_0 (a0 : Int) (a1 : Int) (x0 : Nat) (h0 : 86401 ≤ x0 ∧ x0 < 9223372036854775808) (w0 : -9223372036854775808 ≤ a0 ∧ a0 ≤ 9223372036854775807) (w1 : -9223372036854775808 ≤ a1 ∧ a1 ≤ 9223372036854775807) : InfoOk (G a0 a1 x0) 0 ⟨some (.i64, (.ofNat 86401), (.ofNat 9223372036854775807)), none, [⟨14, cn 4096, cn 4096, .bool true⟩]⟩ := (infoOk_cons rfl rfl rfl (by rw [gv_chan 4096, gb0 a0 a1 x0]; exact e_leq .i64 (.ofNat x0) (.ofNat x0) true (decide_eq_true (by first | (simp only [Int.ofNat_eq_natCast, ne_eq]; omega) | omega | simp))) (infoOk_rng (gb0 a0 a1 x0) (by simp only [Int.ofNat_eq_natCast]; omega) (by simp only [Int.ofNat_eq_natCast]; omega)))
theorem tabH_ok (a0 : Int) (a1 : Int) (x0 : Nat) (h0 : 86401 ≤ x0 ∧ x0 < 9223372036854775808) (w0 : -9223372036854775808 ≤ a0 ∧ a0 ≤ 9223372036854775807) (w1 : -9223372036854775808 ≤ a1 ∧ a1 ≤ 9223372036854775807) : TabOk (G a0 a1 x0) tabH := by
  intro j f hf
  match j, hf with
  | 0, hf => obtain rfl := Option.some.inj (show some (⟨some (.i64, (.ofNat 86401), (.ofNat 9223372036854775807)), none, [⟨14, cn 4096, cn 4096, .bool true⟩]⟩ : NInfo) = some f from hf); exact tabH_0 a0 a1 x0 h0  w0 w1 
  | 1, hf => obtain rfl := Option.some.inj (show some (z0 : NInfo) = some f from hf); exact infoOk_nil
  | n + 2, hf => exact absurd hf (by simp [tabH])
theorem kinv (a0 : Int) (a1 : Int) (x0 : Nat) (h0 : 86401 ≤ x0 ∧ x0 < 9223372036854775808) (w0 : -9223372036854775808 ≤ a0 ∧ a0 ≤ 9223372036854775807) (w1 : -9223372036854775808 ≤ a1 ∧ a1 ≤ 9223372036854775807) : KInv (symL (base a0 a1 x0)) [some .i64, some .i64] := by
  intro i k hi
  match i, hi with
  | 0, hi => cases hi; exact ⟨.ofNat x0, rfl, by rw [inK_iff]; show (-9223372036854775808 : Int) ≤ (x0 : Int) ∧ (x0 : Int) ≤ 9223372036854775807; omega⟩
  | 1, hi => cases hi; exact ⟨a1, rfl, by rw [inK_iff]; exact w1⟩
  | n + 2, hi => cases hi
theorem named_ok (a0 : Int) (a1 : Int) (x0 : Nat) (i : Nat) : named (G a0 a1 x0 i) := symL_named' (mkVals_named (by intro v hv; simp only [base, List.mem_cons, List.not_mem_nil, or_false] at hv; rcases hv with rfl | rfl <;> trivial) nam_ok) i
theorem names_ok (a0 : Int) (a1 : Int) (x0 : Nat) (h0 : 86401 ≤ x0 ∧ x0 < 9223372036854775808) (w0 : -9223372036854775808 ≤ a0 ∧ a0 ≤ 9223372036854775807) (w1 : -9223372036854775808 ≤ a1 ∧ a1 ≤ 9223372036854775807) : NamesOk (G a0 a1 x0) (Names.ofL tab) := namesOk_parts (named_ok a0 a1 x0) len_ok (tabH_ok a0 a1 x0 h0  w0 w1 )
theorem crc_ok (a0 : Int) (a1 : Int) (x0 : Nat) : CrcOk (G a0 a1 x0) crcs := crcsB_ok (l := base a0 a1 x0) refs_ok crcs_ok
end Go.Proofs.YtemmgompegkgkaaGreatDoor.toplife.b0
namespace Go.Proofs.YtemmgompegkgkaaGreatDoor.toplife.bl
open Go Vai
set_option linter.unusedVariables false
set_option linter.unusedSimpArgs false
noncomputable def ds : List NDef := []
noncomputable def tabH : List NInfo := [⟨some (.i64, (.ofNat 86401), (.ofNat 9223372036854775807)), none, [⟨14, cn 4096, cn 4096, .bool true⟩]⟩,
  z0,
  ⟨some (.i64, (.ofNat 1), (.ofNat 86399)), none, [⟨0, jn 0, cn 4098, cn 4098⟩]⟩]
noncomputable def tab : List NInfo := tabH
noncomputable def crcs : List (List Value × Value) := []
noncomputable abbrev base (a0 : Int) (a1 : Int) (x0 : Nat) (x1 : Nat) : List Value := [.int .i64 (.ofNat x0), .int .i64 a1, .int .i64 (.ofNat x1)]
noncomputable abbrev G (a0 : Int) (a1 : Int) (x0 : Nat) (x1 : Nat) : Sym := symL (mkVals ds (base a0 a1 x0 x1))
set_option maxRecDepth 100000 in
theorem refs_ok : refsAll ds 3 = true := by kernel_rfl
set_option maxRecDepth 100000 in
theorem nam_ok : namDs ds = true := by kernel_rfl
set_option maxRecDepth 100000 in
theorem len_ok : Nat.ble tab.length 4096 = true := by kernel_rfl
set_option maxRecDepth 100000 in
theorem crcs_ok : crcsB ds 3 crcs = true := by kernel_rfl
theorem gb0 (a0 : Int) (a1 : Int) (x0 : Nat) (x1 : Nat) : G a0 a1 x0 x1 (4096 - 4096) = .int .i64 (.ofNat x0) := by
  show symL (mkVals ds (base a0 a1 x0 x1)) 0 = _
  rw [symL_low ds (base a0 a1 x0 x1) 0 (by simp)]
  rfl
theorem gb1 (a0 : Int) (a1 : Int) (x0 : Nat) (x1 : Nat) : G a0 a1 x0 x1 (4097 - 4096) = .int .i64 a1 := by
  show symL (mkVals ds (base a0 a1 x0 x1)) 1 = _
  rw [symL_low ds (base a0 a1 x0 x1) 1 (by simp)]
  rfl
theorem gb2 (a0 : Int) (a1 : Int) (x0 : Nat) (x1 : Nat) : G a0 a1 x0 x1 (4098 - 4096) = .int .i64 (.ofNat x1) := by
  show symL (mkVals ds (base a0 a1 x0 x1)) 2 = _
  rw [symL_low ds (base a0 a1 x0 x1) 2 (by simp)]
  rfl
theorem tabH_0 (a0 : Int) (a1 : Int) (x0 : Nat) (x1 : Nat) (h0 : 86401 ≤ x0 ∧ x0 < 9223372036854775808) (h1 : 1 ≤ x1 ∧ x1 < 86400) (w0 : -9223372036854775808 ≤ a0 ∧ a0 ≤ 9223372036854775807) (w1 : -9223372036854775808 ≤ a1 ∧ a1 ≤ 9223372036854775807) : InfoOk (G a0 a1 x0 x1) 0 ⟨some (.i64, (.ofNat 86401), (.ofNat 9223372036854775807)), none, [⟨14, cn 4096, cn 4096, .bool true⟩]⟩ := (infoOk_cons rfl rfl rfl (by rw [gv_chan 4096, gb0 a0 a1 x0 x1]; exact e_leq .i64 (.ofNat x0) (.ofNat x0) true (decide_eq_true (by first | (simp only [Int.ofNat_eq_natCast, ne_eq]; omega) | omega | simp))) (infoOk_rng (gb0 a0 a1 x0 x1) (by simp only [Int.ofNat_eq_natCast]; omega) (by simp only [Int.ofNat_eq_natCast]; omega)))
theorem tabH_2 (a0 : Int) (a1 : Int) (x0 : Nat) (x1 : Nat) (h0 : 86401 ≤ x0 ∧ x0 < 9223372036854775808) (h1 : 1 ≤ x1 ∧ x1 < 86400) (w0 : -9223372036854775808 ≤ a0 ∧ a0 ≤ 9223372036854775807) (w1 : -9223372036854775808 ≤ a1 ∧ a1 ≤ 9223372036854775807) : InfoOk (G a0 a1 x0 x1) 2 ⟨some (.i64, (.ofNat 1), (.ofNat 86399)), none, [⟨0, jn 0, cn 4098, cn 4098⟩]⟩ := (infoOk_cons rfl rfl rfl (by rw [gv_chan 4098, gb2 a0 a1 x0 x1]; exact e_add .i64 0 x1 x1 (by omega) (by show _ ≤ _; simp only [posMax]; omega)) (infoOk_rng (gb2 a0 a1 x0 x1) (by simp only [Int.ofNat_eq_natCast]; omega) (by simp only [Int.ofNat_eq_natCast]; omega)))
theorem tabH_ok (a0 : Int) (a1 : Int) (x0 : Nat) (x1 : Nat) (h0 : 86401 ≤ x0 ∧ x0 < 9223372036854775808) (h1 : 1 ≤ x1 ∧ x1 < 86400) (w0 : -9223372036854775808 ≤ a0 ∧ a0 ≤ 9223372036854775807) (w1 : -9223372036854775808 ≤ a1 ∧ a1 ≤ 9223372036854775807) : TabOk (G a0 a1 x0 x1) tabH := by
  intro j f hf
  match j, hf with
  | 0, hf => obtain rfl := Option.some.inj (show some (⟨some (.i64, (.ofNat 86401), (.ofNat 9223372036854775807)), none, [⟨14, cn 4096, cn 4096, .bool true⟩]⟩ : NInfo) = some f from hf); exact tabH_0 a0 a1 x0 x1 h0 h1  w0 w1 
  | 1, hf => obtain rfl := Option.some.inj (show some (z0 : NInfo) = some f from hf); exact infoOk_nil
  | 2, hf => obtain rfl := Option.some.inj (show some (⟨some (.i64, (.ofNat 1), (.ofNat 86399)), none, [⟨0, jn 0, cn 4098, cn 4098⟩]⟩ : NInfo) = some f from hf); exact tabH_2 a0 a1 x0 x1 h0 h1  w0 w1 
  | n + 3, hf => exact absurd hf (by simp [tabH])
theorem kinv (a0 : Int) (a1 : Int) (x0 : Nat) (x1 : Nat) (h0 : 86401 ≤ x0 ∧ x0 < 9223372036854775808) (h1 : 1 ≤ x1 ∧ x1 < 86400) (w0 : -9223372036854775808 ≤ a0 ∧ a0 ≤ 9223372036854775807) (w1 : -9223372036854775808 ≤ a1 ∧ a1 ≤ 9223372036854775807) : KInv (symL (base a0 a1 x0 x1)) [some .i64, some .i64, some .i64] := by
  intro i k hi
  match i, hi with
  | 0, hi => cases hi; exact ⟨.ofNat x0, rfl, by rw [inK_iff]; show (-9223372036854775808 : Int) ≤ (x0 : Int) ∧ (x0 : Int) ≤ 9223372036854775807; omega⟩
  | 1, hi => cases hi; exact ⟨a1, rfl, by rw [inK_iff]; exact w1⟩
  | 2, hi => cases hi; exact ⟨.ofNat x1, rfl, by rw [inK_iff]; show (-9223372036854775808 : Int) ≤ (x1 : Int) ∧ (x1 : Int) ≤ 9223372036854775807; omega⟩
  | n + 3, hi => cases hi
theorem named_ok (a0 : Int) (a1 : Int) (x0 : Nat) (x1 : Nat) (i : Nat) : named (G a0 a1 x0 x1 i) := symL_named' (mkVals_named (by intro v hv; simp only [base, List.mem_cons, List.not_mem_nil, or_false] at hv; rcases hv with rfl | rfl | rfl <;> trivial) nam_ok) i
theorem names_ok (a0 : Int) (a1 : Int) (x0 : Nat) (x1 : Nat) (h0 : 86401 ≤ x0 ∧ x0 < 9223372036854775808) (h1 : 1 ≤ x1 ∧ x1 < 86400) (w0 : -9223372036854775808 ≤ a0 ∧ a0 ≤ 9223372036854775807) (w1 : -9223372036854775808 ≤ a1 ∧ a1 ≤ 9223372036854775807) : NamesOk (G a0 a1 x0 x1) (Names.ofL tab) := namesOk_parts (named_ok a0 a1 x0 x1) len_ok (tabH_ok a0 a1 x0 x1 h0 h1  w0 w1 )
theorem crc_ok (a0 : Int) (a1 : Int) (x0 : Nat) (x1 : Nat) : CrcOk (G a0 a1 x0 x1) crcs := crcsB_ok (l := base a0 a1 x0 x1) refs_ok crcs_ok
end Go.Proofs.YtemmgompegkgkaaGreatDoor.toplife.bl
namespace Go.Proofs.YtemmgompegkgkaaGreatDoor.toplife.bg
open Go Vai
set_option linter.unusedVariables false
set_option linter.unusedSimpArgs false
noncomputable def ds : List NDef := [.ent 0 (cn 4098) (jn 86400),
  .ent 39 (cn 4099) (bn 0),
  .ent 36 (cn 4100) (bn 0),
  .ent 9 (cn 4100) (jn 8),
  .ent 36 (cn 4102) (bn 0),
  .crc z0w3,
  .ent 39 (cn 4104) (bn 0),
  .ent 9 (cn 4105) (jn 0),
  .ent 36 (cn 4106) (bn 0),
  .ent 9 (cn 4105) (jn 8),
  .ent 36 (cn 4108) (bn 0),
  .ent 9 (cn 4105) (jn 16),
  .ent 36 (cn 4110) (bn 0),
  .ent 9 (cn 4105) (jn 24),
  .ent 36 (cn 4112) (bn 0)]
noncomputable def tabS : List NInfo := [z0,
  z0,
  ⟨none, none, [⟨0, cn 4098, jn 86400, cn 4099⟩]⟩,
  ⟨none, none, [⟨39, cn 4099, bn 0, cn 4100⟩]⟩,
  ⟨none, none, [⟨36, cn 4100, bn 0, cn 4101⟩, ⟨9, cn 4100, jn 8, cn 4102⟩]⟩,
  z0,
  ⟨none, none, [⟨36, cn 4102, bn 0, cn 4103⟩]⟩,
  z0,
  ⟨some (.u32, (.ofNat 0), (.ofNat 4294967295)), none, [⟨39, cn 4104, bn 0, cn 4105⟩]⟩,
  ⟨some (.u64, (.ofNat 0), (.ofNat 18446744073709551615)), none, [⟨9, cn 4105, jn 0, cn 4106⟩, ⟨9, cn 4105, jn 8, cn 4108⟩, ⟨9, cn 4105, jn 16, cn 4110⟩, ⟨9, cn 4105, jn 24, cn 4112⟩]⟩,
  ⟨some (.u64, (.ofNat 0), (.ofNat 18446744073709551615)), none, [⟨36, cn 4106, bn 0, cn 4107⟩]⟩,
  ⟨some (.u8, (.ofNat 0), (.ofNat 255)), none, []⟩,
  ⟨some (.u64, (.ofNat 0), (.ofNat 18446744073709551615)), none, [⟨36, cn 4108, bn 0, cn 4109⟩]⟩,
  ⟨some (.u8, (.ofNat 0), (.ofNat 255)), none, []⟩,
  ⟨some (.u64, (.ofNat 0), (.ofNat 18446744073709551615)), none, [⟨36, cn 4110, bn 0, cn 4111⟩]⟩,
  ⟨some (.u8, (.ofNat 0), (.ofNat 255)), none, []⟩,
  ⟨some (.u64, (.ofNat 0), (.ofNat 18446744073709551615)), none, [⟨36, cn 4112, bn 0, cn 4113⟩]⟩,
  ⟨some (.u8, (.ofNat 0), (.ofNat 255)), none, []⟩]
noncomputable def tabH : List NInfo := [⟨some (.i64, (.ofNat 86401), (.ofNat 9223372036854775807)), none, [⟨14, cn 4096, cn 4096, .bool true⟩]⟩,
  z0,
  ⟨some (.i64, (.ofNat 86400), (.ofNat 99999)), none, [⟨0, jn 0, cn 4098, cn 4098⟩]⟩,
  ⟨some (.i64, (.ofNat 172800), (.ofNat 186399)), none, []⟩,
  ⟨some (.u64, (.ofNat 172800), (.ofNat 186399)), none, [⟨9, cn 4100, jn 0, cn 4100⟩, ⟨9, cn 4100, jn 16, .int .u64 (.ofNat 2)⟩, ⟨9, cn 4100, jn 24, .int .u64 (.ofNat 0)⟩, ⟨9, cn 4100, jn 32, .int .u64 (.ofNat 0)⟩, ⟨9, cn 4100, jn 40, .int .u64 (.ofNat 0)⟩, ⟨9, cn 4100, jn 48, .int .u64 (.ofNat 0)⟩, ⟨9, cn 4100, jn 56, .int .u64 (.ofNat 0)⟩]⟩,
  ⟨some (.u8, (.ofNat 0), (.ofNat 255)), none, []⟩,
  ⟨some (.u64, (.ofNat 675), (.ofNat 728)), none, []⟩,
  ⟨some (.u8, (.ofNat 0), (.ofNat 255)), none, []⟩,
  z0,
  z0,
  z0,
  z0,
  z0,
  z0,
  z0,
  z0,
  z0,
  z0]
noncomputable def tab : List NInfo := (unionT tabS tabH)
noncomputable def crcs : List (List Value × Value) := [(z0w3, cn 4104)]
noncomputable abbrev base (a0 : Int) (a1 : Int) (x0 : Nat) (x1 : Nat) : List Value := [.int .i64 (.ofNat x0), .int .i64 a1, .int .i64 (.ofNat x1)]
noncomputable abbrev G (a0 : Int) (a1 : Int) (x0 : Nat) (x1 : Nat) : Sym := symL (mkVals ds (base a0 a1 x0 x1))
set_option maxRecDepth 100000 in
theorem refs_ok : refsAll ds 3 = true := by kernel_rfl
set_option maxRecDepth 100000 in
theorem nam_ok : namDs ds = true := by kernel_rfl
set_option maxRecDepth 100000 in
theorem len_ok : Nat.ble tab.length 4096 = true := by kernel_rfl
set_option maxRecDepth 100000 in
theorem crcs_ok : crcsB ds 3 crcs = true := by kernel_rfl
set_option maxRecDepth 100000 in
theorem sym_ok : symTab (ksOf ds [some .i64, some .i64, some .i64]) ds 3 tabS 0 = true := by kernel_rfl
theorem gb0 (a0 : Int) (a1 : Int) (x0 : Nat) (x1 : Nat) : G a0 a1 x0 x1 (4096 - 4096) = .int .i64 (.ofNat x0) := by
  show symL (mkVals ds (base a0 a1 x0 x1)) 0 = _
  rw [symL_low ds (base a0 a1 x0 x1) 0 (by simp)]
  rfl
theorem gb1 (a0 : Int) (a1 : Int) (x0 : Nat) (x1 : Nat) : G a0 a1 x0 x1 (4097 - 4096) = .int .i64 a1 := by
  show symL (mkVals ds (base a0 a1 x0 x1)) 1 = _
  rw [symL_low ds (base a0 a1 x0 x1) 1 (by simp)]
  rfl
theorem gb2 (a0 : Int) (a1 : Int) (x0 : Nat) (x1 : Nat) : G a0 a1 x0 x1 (4098 - 4096) = .int .i64 (.ofNat x1) := by
  show symL (mkVals ds (base a0 a1 x0 x1)) 2 = _
  rw [symL_low ds (base a0 a1 x0 x1) 2 (by simp)]
  rfl
theorem hv3 (a0 : Int) (a1 : Int) (x0 : Nat) (x1 : Nat) (h0 : 86401 ≤ x0 ∧ x0 < 9223372036854775808) (h1 : 86400 ≤ x1 ∧ x1 < 100000) : G a0 a1 x0 x1 (4099 - 4096) = .int .i64 (.ofNat (x1 + 86400)) := by
  have hs : ds[0]? = some (.ent 0 (cn 4098) (jn 86400)) := rfl
  have hd := mkVals_def (l := base a0 a1 x0 x1) hs (refsAll_get refs_ok hs)
  have hd : G a0 a1 x0 x1 3 = entE 0 (gv (G a0 a1 x0 x1) (cn 4098)) (gv (G a0 a1 x0 x1) (jn 86400)) := hd
  rw [gv_chan 4098, gb2 a0 a1 x0 x1] at hd
  exact hd.trans (entE_of (by decide) (e_add .i64 x1 86400 (x1 + 86400) rfl (by show _ ≤ _; simp only [posMax]; omega)))
theorem hv4 (a0 : Int) (a1 : Int) (x0 : Nat) (x1 : Nat) (h0 : 86401 ≤ x0 ∧ x0 < 9223372036854775808) (h1 : 86400 ≤ x1 ∧ x1 < 100000) : G a0 a1 x0 x1 (4100 - 4096) = .int .u64 (.ofNat (x1 + 86400)) := by
  have hs : ds[1]? = some (.ent 39 (cn 4099) (bn 0)) := rfl
  have hd := mkVals_def (l := base a0 a1 x0 x1) hs (refsAll_get refs_ok hs)
  have hd : G a0 a1 x0 x1 4 = entE 39 (gv (G a0 a1 x0 x1) (cn 4099)) (gv (G a0 a1 x0 x1) (bn 0)) := hd
  rw [gv_chan 4099, hv3 a0 a1 x0 x1 h0 h1 ] at hd
  exact hd.trans (entE_conv (k' := .u64) (e_conv .i64 .u64 _ (x1 + 86400) (x1 + 86400) rfl (by show _ ≤ _; simp only [posMax]; omega)))
theorem hv5 (a0 : Int) (a1 : Int) (x0 : Nat) (x1 : Nat) (h0 : 86401 ≤ x0 ∧ x0 < 9223372036854775808) (h1 : 86400 ≤ x1 ∧ x1 < 100000) : G a0 a1 x0 x1 (4101 - 4096) = .int .u8 (.ofNat ((x1 + 86400) % 256)) := by
  have hs : ds[2]? = some (.ent 36 (cn 4100) (bn 0)) := rfl
  have hd := mkVals_def (l := base a0 a1 x0 x1) hs (refsAll_get refs_ok hs)
  have hd : G a0 a1 x0 x1 5 = entE 36 (gv (G a0 a1 x0 x1) (cn 4100)) (gv (G a0 a1 x0 x1) (bn 0)) := hd
  rw [gv_chan 4100, hv4 a0 a1 x0 x1 h0 h1 ] at hd
  exact hd.trans (entE_conv (k' := .u8) (e_convm .u64 .u8 _ (x1 + 86400) ((x1 + 86400) % 256) rfl rfl))
theorem hv6 (a0 : Int) (a1 : Int) (x0 : Nat) (x1 : Nat) (h0 : 86401 ≤ x0 ∧ x0 < 9223372036854775808) (h1 : 86400 ≤ x1 ∧ x1 < 100000) : G a0 a1 x0 x1 (4102 - 4096) = .int .u64 (.ofNat ((x1 + 86400) / 256)) := by
  have hs : ds[3]? = some (.ent 9 (cn 4100) (jn 8)) := rfl
  have hd := mkVals_def (l := base a0 a1 x0 x1) hs (refsAll_get refs_ok hs)
  have hd : G a0 a1 x0 x1 6 = entE 9 (gv (G a0 a1 x0 x1) (cn 4100)) (gv (G a0 a1 x0 x1) (jn 8)) := hd
  rw [gv_chan 4100, hv4 a0 a1 x0 x1 h0 h1 ] at hd
  exact hd.trans (entE_of (by decide) (e_shr .u64 .i64 (x1 + 86400) 8 ((x1 + 86400) / 256) (by decide) rfl))
theorem hv7 (a0 : Int) (a1 : Int) (x0 : Nat) (x1 : Nat) (h0 : 86401 ≤ x0 ∧ x0 < 9223372036854775808) (h1 : 86400 ≤ x1 ∧ x1 < 100000) : G a0 a1 x0 x1 (4103 - 4096) = .int .u8 (.ofNat (((x1 + 86400) / 256) % 256)) := by
  have hs : ds[4]? = some (.ent 36 (cn 4102) (bn 0)) := rfl
  have hd := mkVals_def (l := base a0 a1 x0 x1) hs (refsAll_get refs_ok hs)
  have hd : G a0 a1 x0 x1 7 = entE 36 (gv (G a0 a1 x0 x1) (cn 4102)) (gv (G a0 a1 x0 x1) (bn 0)) := hd
  rw [gv_chan 4102, hv6 a0 a1 x0 x1 h0 h1 ] at hd
  exact hd.trans (entE_conv (k' := .u8) (e_convm .u64 .u8 _ ((x1 + 86400) / 256) (((x1 + 86400) / 256) % 256) rfl rfl))
theorem tabH_0 (a0 : Int) (a1 : Int) (x0 : Nat) (x1 : Nat) (h0 : 86401 ≤ x0 ∧ x0 < 9223372036854775808) (h1 : 86400 ≤ x1 ∧ x1 < 100000) (w0 : -9223372036854775808 ≤ a0 ∧ a0 ≤ 9223372036854775807) (w1 : -9223372036854775808 ≤ a1 ∧ a1 ≤ 9223372036854775807) : InfoOk (G a0 a1 x0 x1) 0 ⟨some (.i64, (.ofNat 86401), (.ofNat 9223372036854775807)), none, [⟨14, cn 4096, cn 4096, .bool true⟩]⟩ := (infoOk_cons rfl rfl rfl (by rw [gv_chan 4096, gb0 a0 a1 x0 x1]; exact e_leq .i64 (.ofNat x0) (.ofNat x0) true (decide_eq_true (by first | (simp only [Int.ofNat_eq_natCast, ne_eq]; omega) | omega | simp))) (infoOk_rng (gb0 a0 a1 x0 x1) (by simp only [Int.ofNat_eq_natCast]; omega) (by simp only [Int.ofNat_eq_natCast]; omega)))
theorem tabH_2 (a0 : Int) (a1 : Int) (x0 : Nat) (x1 : Nat) (h0 : 86401 ≤ x0 ∧ x0 < 9223372036854775808) (h1 : 86400 ≤ x1 ∧ x1 < 100000) (w0 : -9223372036854775808 ≤ a0 ∧ a0 ≤ 9223372036854775807) (w1 : -9223372036854775808 ≤ a1 ∧ a1 ≤ 9223372036854775807) : InfoOk (G a0 a1 x0 x1) 2 ⟨some (.i64, (.ofNat 86400), (.ofNat 99999)), none, [⟨0, jn 0, cn 4098, cn 4098⟩]⟩ := (infoOk_cons rfl rfl rfl (by rw [gv_chan 4098, gb2 a0 a1 x0 x1]; exact e_add .i64 0 x1 x1 (by omega) (by show _ ≤ _; simp only [posMax]; omega)) (infoOk_rng (gb2 a0 a1 x0 x1) (by simp only [Int.ofNat_eq_natCast]; omega) (by simp only [Int.ofNat_eq_natCast]; omega)))
theorem tabH_3 (a0 : Int) (a1 : Int) (x0 : Nat) (x1 : Nat) (h0 : 86401 ≤ x0 ∧ x0 < 9223372036854775808) (h1 : 86400 ≤ x1 ∧ x1 < 100000) (w0 : -9223372036854775808 ≤ a0 ∧ a0 ≤ 9223372036854775807) (w1 : -9223372036854775808 ≤ a1 ∧ a1 ≤ 9223372036854775807) : InfoOk (G a0 a1 x0 x1) 3 ⟨some (.i64, (.ofNat 172800), (.ofNat 186399)), none, []⟩ := (infoOk_rng (hv3 a0 a1 x0 x1 h0 h1 ) (by simp only [Int.ofNat_eq_natCast]; omega) (by simp only [Int.ofNat_eq_natCast]; omega))
theorem tabH_4 (a0 : Int) (a1 : Int) (x0 : Nat) (x1 : Nat) (h0 : 86401 ≤ x0 ∧ x0 < 9223372036854775808) (h1 : 86400 ≤ x1 ∧ x1 < 100000) (w0 : -9223372036854775808 ≤ a0 ∧ a0 ≤ 9223372036854775807) (w1 : -9223372036854775808 ≤ a1 ∧ a1 ≤ 9223372036854775807) : InfoOk (G a0 a1 x0 x1) 4 ⟨some (.u64, (.ofNat 172800), (.ofNat 186399)), none, [⟨9, cn 4100, jn 0, cn 4100⟩, ⟨9, cn 4100, jn 16, .int .u64 (.ofNat 2)⟩, ⟨9, cn 4100, jn 24, .int .u64 (.ofNat 0)⟩, ⟨9, cn 4100, jn 32, .int .u64 (.ofNat 0)⟩, ⟨9, cn 4100, jn 40, .int .u64 (.ofNat 0)⟩, ⟨9, cn 4100, jn 48, .int .u64 (.ofNat 0)⟩, ⟨9, cn 4100, jn 56, .int .u64 (.ofNat 0)⟩]⟩ := (infoOk_cons rfl rfl rfl (by rw [gv_chan 4100, hv4 a0 a1 x0 x1 h0 h1 ]; exact e_shr .u64 .i64 (x1 + 86400) 0 (x1 + 86400) (by decide) (by omega)) (infoOk_cons rfl rfl rfl (by rw [gv_chan 4100, hv4 a0 a1 x0 x1 h0 h1 ]; exact e_shr .u64 .i64 (x1 + 86400) 16 2 (by decide) (by omega)) (infoOk_cons rfl rfl rfl (by rw [gv_chan 4100, hv4 a0 a1 x0 x1 h0 h1 ]; exact e_shr .u64 .i64 (x1 + 86400) 24 0 (by decide) (by omega)) (infoOk_cons rfl rfl rfl (by rw [gv_chan 4100, hv4 a0 a1 x0 x1 h0 h1 ]; exact e_shr .u64 .i64 (x1 + 86400) 32 0 (by decide) (by omega)) (infoOk_cons rfl rfl rfl (by rw [gv_chan 4100, hv4 a0 a1 x0 x1 h0 h1 ]; exact e_shr .u64 .i64 (x1 + 86400) 40 0 (by decide) (by omega)) (infoOk_cons rfl rfl rfl (by rw [gv_chan 4100, hv4 a0 a1 x0 x1 h0 h1 ]; exact e_shr .u64 .i64 (x1 + 86400) 48 0 (by decide) (by omega)) (infoOk_cons rfl rfl rfl (by rw [gv_chan 4100, hv4 a0 a1 x0 x1 h0 h1 ]; exact e_shr .u64 .i64 (x1 + 86400) 56 0 (by decide) (by omega)) (infoOk_rng (hv4 a0 a1 x0 x1 h0 h1 ) (by simp only [Int.ofNat_eq_natCast]; omega) (by simp only [Int.ofNat_eq_natCast]; omega)))))))))
theorem tabH_5 (a0 : Int) (a1 : Int) (x0 : Nat) (x1 : Nat) (h0 : 86401 ≤ x0 ∧ x0 < 9223372036854775808) (h1 : 86400 ≤ x1 ∧ x1 < 100000) (w0 : -9223372036854775808 ≤ a0 ∧ a0 ≤ 9223372036854775807) (w1 : -9223372036854775808 ≤ a1 ∧ a1 ≤ 9223372036854775807) : InfoOk (G a0 a1 x0 x1) 5 ⟨some (.u8, (.ofNat 0), (.ofNat 255)), none, []⟩ := (infoOk_rng (hv5 a0 a1 x0 x1 h0 h1 ) (by simp only [Int.ofNat_eq_natCast]; omega) (by simp only [Int.ofNat_eq_natCast]; omega))
theorem tabH_6 (a0 : Int) (a1 : Int) (x0 : Nat) (x1 : Nat) (h0 : 86401 ≤ x0 ∧ x0 < 9223372036854775808) (h1 : 86400 ≤ x1 ∧ x1 < 100000) (w0 : -9223372036854775808 ≤ a0 ∧ a0 ≤ 9223372036854775807) (w1 : -9223372036854775808 ≤ a1 ∧ a1 ≤ 9223372036854775807) : InfoOk (G a0 a1 x0 x1) 6 ⟨some (.u64, (.ofNat 675), (.ofNat 728)), none, []⟩ := (infoOk_rng (hv6 a0 a1 x0 x1 h0 h1 ) (by simp only [Int.ofNat_eq_natCast]; omega) (by simp only [Int.ofNat_eq_natCast]; omega))
theorem tabH_7 (a0 : Int) (a1 : Int) (x0 : Nat) (x1 : Nat) (h0 : 86401 ≤ x0 ∧ x0 < 9223372036854775808) (h1 : 86400 ≤ x1 ∧ x1 < 100000) (w0 : -9223372036854775808 ≤ a0 ∧ a0 ≤ 9223372036854775807) (w1 : -9223372036854775808 ≤ a1 ∧ a1 ≤ 9223372036854775807) : InfoOk (G a0 a1 x0 x1) 7 ⟨some (.u8, (.ofNat 0), (.ofNat 255)), none, []⟩ := (infoOk_rng (hv7 a0 a1 x0 x1 h0 h1 ) (by simp only [Int.ofNat_eq_natCast]; omega) (by simp only [Int.ofNat_eq_natCast]; omega))
theorem tabH_ok (a0 : Int) (a1 : Int) (x0 : Nat) (x1 : Nat) (h0 : 86401 ≤ x0 ∧ x0 < 9223372036854775808) (h1 : 86400 ≤ x1 ∧ x1 < 100000) (w0 : -9223372036854775808 ≤ a0 ∧ a0 ≤ 9223372036854775807) (w1 : -9223372036854775808 ≤ a1 ∧ a1 ≤ 9223372036854775807) : TabOk (G a0 a1 x0 x1) tabH := by
  intro j f hf
  match j, hf with
  | 0, hf => obtain rfl := Option.some.inj (show some (⟨some (.i64, (.ofNat 86401), (.ofNat 9223372036854775807)), none, [⟨14, cn 4096, cn 4096, .bool true⟩]⟩ : NInfo) = some f from hf); exact tabH_0 a0 a1 x0 x1 h0 h1  w0 w1 
  | 1, hf => obtain rfl := Option.some.inj (show some (z0 : NInfo) = some f from hf); exact infoOk_nil
  | 2, hf => obtain rfl := Option.some.inj (show some (⟨some (.i64, (.ofNat 86400), (.ofNat 99999)), none, [⟨0, jn 0, cn 4098, cn 4098⟩]⟩ : NInfo) = some f from hf); exact tabH_2 a0 a1 x0 x1 h0 h1  w0 w1 
  | 3, hf => obtain rfl := Option.some.inj (show some (⟨some (.i64, (.ofNat 172800), (.ofNat 186399)), none, []⟩ : NInfo) = some f from hf); exact tabH_3 a0 a1 x0 x1 h0 h1  w0 w1 
  | 4, hf => obtain rfl := Option.some.inj (show some (⟨some (.u64, (.ofNat 172800), (.ofNat 186399)), none, [⟨9, cn 4100, jn 0, cn 4100⟩, ⟨9, cn 4100, jn 16, .int .u64 (.ofNat 2)⟩, ⟨9, cn 4100, jn 24, .int .u64 (.ofNat 0)⟩, ⟨9, cn 4100, jn 32, .int .u64 (.ofNat 0)⟩, ⟨9, cn 4100, jn 40, .int .u64 (.ofNat 0)⟩, ⟨9, cn 4100, jn 48, .int .u64 (.ofNat 0)⟩, ⟨9, cn 4100, jn 56, .int .u64 (.ofNat 0)⟩]⟩ : NInfo) = some f from hf); exact tabH_4 a0 a1 x0 x1 h0 h1  w0 w1 
  | 5, hf => obtain rfl := Option.some.inj (show some (⟨some (.u8, (.ofNat 0), (.ofNat 255)), none, []⟩ : NInfo) = some f from hf); exact tabH_5 a0 a1 x0 x1 h0 h1  w0 w1 
  | 6, hf => obtain rfl := Option.some.inj (show some (⟨some (.u64, (.ofNat 675), (.ofNat 728)), none, []⟩ : NInfo) = some f from hf); exact tabH_6 a0 a1 x0 x1 h0 h1  w0 w1 
  | 7, hf => obtain rfl := Option.some.inj (show some (⟨some (.u8, (.ofNat 0), (.ofNat 255)), none, []⟩ : NInfo) = some f from hf); exact tabH_7 a0 a1 x0 x1 h0 h1  w0 w1 
  | 8, hf => obtain rfl := Option.some.inj (show some (z0 : NInfo) = some f from hf); exact infoOk_nil
  | 9, hf => obtain rfl := Option.some.inj (show some (z0 : NInfo) = some f from hf); exact infoOk_nil
  | 10, hf => obtain rfl := Option.some.inj (show some (z0 : NInfo) = some f from hf); exact infoOk_nil
  | 11, hf => obtain rfl := Option.some.inj (show some (z0 : NInfo) = some f from hf); exact infoOk_nil
  | 12, hf => obtain rfl := Option.some.inj (show some (z0 : NInfo) = some f from hf); exact infoOk_nil
  | 13, hf => obtain rfl := Option.some.inj (show some (z0 : NInfo) = some f from hf); exact infoOk_nil
  | 14, hf => obtain rfl := Option.some.inj (show some (z0 : NInfo) = some f from hf); exact infoOk_nil
  | 15, hf => obtain rfl := Option.some.inj (show some (z0 : NInfo) = some f from hf); exact infoOk_nil
  | 16, hf => obtain rfl := Option.some.inj (show some (z0 : NInfo) = some f from hf); exact infoOk_nil
  | 17, hf => obtain rfl := Option.some.inj (show some (z0 : NInfo) = some f from hf); exact infoOk_nil
  | n + 18, hf => exact absurd hf (by simp [tabH])
theorem kinv (a0 : Int) (a1 : Int) (x0 : Nat) (x1 : Nat) (h0 : 86401 ≤ x0 ∧ x0 < 9223372036854775808) (h1 : 86400 ≤ x1 ∧ x1 < 100000) (w0 : -9223372036854775808 ≤ a0 ∧ a0 ≤ 9223372036854775807) (w1 : -9223372036854775808 ≤ a1 ∧ a1 ≤ 9223372036854775807) : KInv (symL (base a0 a1 x0 x1)) [some .i64, some .i64, some .i64] := by
  intro i k hi
  match i, hi with
  | 0, hi => cases hi; exact ⟨.ofNat x0, rfl, by rw [inK_iff]; show (-9223372036854775808 : Int) ≤ (x0 : Int) ∧ (x0 : Int) ≤ 9223372036854775807; omega⟩
  | 1, hi => cases hi; exact ⟨a1, rfl, by rw [inK_iff]; exact w1⟩
  | 2, hi => cases hi; exact ⟨.ofNat x1, rfl, by rw [inK_iff]; show (-9223372036854775808 : Int) ≤ (x1 : Int) ∧ (x1 : Int) ≤ 9223372036854775807; omega⟩
  | n + 3, hi => cases hi
theorem named_ok (a0 : Int) (a1 : Int) (x0 : Nat) (x1 : Nat) (i : Nat) : named (G a0 a1 x0 x1 i) := symL_named' (mkVals_named (by intro v hv; simp only [base, List.mem_cons, List.not_mem_nil, or_false] at hv; rcases hv with rfl | rfl | rfl <;> trivial) nam_ok) i
theorem names_ok (a0 : Int) (a1 : Int) (x0 : Nat) (x1 : Nat) (h0 : 86401 ≤ x0 ∧ x0 < 9223372036854775808) (h1 : 86400 ≤ x1 ∧ x1 < 100000) (w0 : -9223372036854775808 ≤ a0 ∧ a0 ≤ 9223372036854775807) (w1 : -9223372036854775808 ≤ a1 ∧ a1 ≤ 9223372036854775807) : NamesOk (G a0 a1 x0 x1) (Names.ofL tab) := namesOk_parts (named_ok a0 a1 x0 x1) len_ok (TabOk.union (symTab_part (l := base a0 a1 x0 x1) rfl (kinv a0 a1 x0 x1 h0 h1 w0 w1) refs_ok sym_ok) (tabH_ok a0 a1 x0 x1 h0 h1  w0 w1 ))
theorem crc_ok (a0 : Int) (a1 : Int) (x0 : Nat) (x1 : Nat) : CrcOk (G a0 a1 x0 x1) crcs := crcsB_ok (l := base a0 a1 x0 x1) refs_ok crcs_ok
end Go.Proofs.YtemmgompegkgkaaGreatDoor.toplife.bg
