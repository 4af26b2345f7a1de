/- The law TopSpoof: names by classes of its inputs, their makings, their tables, and the check of these. -/
import Derived.Test.YtemmgompegkgkaaGreatDoorVH
import Derived.Test.YtemmgompegkgkaaGreatDoorTB
import Derived.KernelRfl
namespace Go.Proofs.YtemmgompegkgkaaGreatDoor.topspoof.k0
open Go Vai
set_option linter.unusedVariables false
set_option linter.unusedSimpArgs false
noncomputable def ds : List NDef := [.ent 36 (cn 4098) (bn 0),
  .str [cn 4099],
  .str [bn 10, bn 0, bn 0, cn 4099]]
noncomputable def tabS : List NInfo := [z0,
  z0,
  ⟨none, none, [⟨36, cn 4098, bn 0, cn 4099⟩]⟩,
  z0,
  ⟨none, some [cn 4099], []⟩,
  ⟨none, some [bn 10, bn 0, bn 0, cn 4099], []⟩]
noncomputable def tab0 : List NInfo := [z0,
  z0,
  ⟨some (.i64, (.ofNat 0), (.ofNat 49)), none, []⟩,
  ⟨some (.u8, (.ofNat 0), (.ofNat 49)), none, []⟩,
  z0,
  z0]
noncomputable def tab : List NInfo := (unionT tabS tab0)
noncomputable def crcs : List (List Value × Value) := []
noncomputable abbrev base (a0 : Int) (a1 : Int) (x0 : Nat) : List Value := [.int .i64 a0, .int .i64 a1, .int .i64 (.ofNat x0)]
noncomputable abbrev G (a0 : Int) (a1 : Int) (x0 : Nat) : Sym := symL (mkVals ds (base a0 a1 x0))
set_option maxRecDepth 100000 in
theorem refs_ok : refsAll ds 3 = true := by kernel_rfl
set_option maxRecDepth 100000 in
theorem nam_ok : namDs ds = true := by kernel_rfl
set_option maxRecDepth 100000 in
theorem len_ok : Nat.ble tab.length 4096 = true := by kernel_rfl
set_option maxRecDepth 100000 in
theorem crcs_ok : crcsB ds 3 crcs = true := by kernel_rfl
set_option maxRecDepth 100000 in
theorem sym_ok : symTab (ksOf ds [some .i64, some .i64, some .i64]) ds 3 tabS 0 = true := by kernel_rfl
theorem gb0 (a0 : Int) (a1 : Int) (x0 : Nat) : G a0 a1 x0 (4096 - 4096) = .int .i64 a0 := by
  show symL (mkVals ds (base a0 a1 x0)) 0 = _
  rw [symL_low ds (base a0 a1 x0) 0 (by simp)]
  rfl
theorem gb1 (a0 : Int) (a1 : Int) (x0 : Nat) : G a0 a1 x0 (4097 - 4096) = .int .i64 a1 := by
  show symL (mkVals ds (base a0 a1 x0)) 1 = _
  rw [symL_low ds (base a0 a1 x0) 1 (by simp)]
  rfl
theorem gb2 (a0 : Int) (a1 : Int) (x0 : Nat) : G a0 a1 x0 (4098 - 4096) = .int .i64 (.ofNat x0) := by
  show symL (mkVals ds (base a0 a1 x0)) 2 = _
  rw [symL_low ds (base a0 a1 x0) 2 (by simp)]
  rfl
set_option maxRecDepth 100000 in
theorem tab0_all (a0 : Int) (a1 : Int) : allB 50 (fun i0 => tabB (G a0 a1 (0 + i0)) tab0 0) = true := by kernel_rfl
theorem tab0_ok (a0 : Int) (a1 : Int) (x0 : Nat) (h0 : 0 ≤ x0 ∧ x0 < 50) : TabOk (G a0 a1 x0) tab0 := by
  have h := (allB_spec (tab0_all a0 a1 ) (x0 - 0) (by omega))
  rw [show 0 + (x0 - 0) = x0 by omega] at h
  exact tabB_part h
theorem kinv (a0 : Int) (a1 : Int) (x0 : Nat) (h0 : 0 ≤ x0 ∧ x0 < 50) (w0 : -9223372036854775808 ≤ a0 ∧ a0 ≤ 9223372036854775807) (w1 : -9223372036854775808 ≤ a1 ∧ a1 ≤ 9223372036854775807) : KInv (symL (base a0 a1 x0)) [some .i64, some .i64, some .i64] := by
  intro i k hi
  match i, hi with
  | 0, hi => cases hi; exact ⟨a0, rfl, by rw [inK_iff]; exact w0⟩
  | 1, hi => cases hi; exact ⟨a1, rfl, by rw [inK_iff]; exact w1⟩
  | 2, hi => cases hi; exact ⟨.ofNat x0, rfl, by rw [inK_iff]; show (-9223372036854775808 : Int) ≤ (x0 : Int) ∧ (x0 : Int) ≤ 9223372036854775807; omega⟩
  | n + 3, hi => cases hi
theorem named_ok (a0 : Int) (a1 : Int) (x0 : Nat) (i : Nat) : named (G a0 a1 x0 i) := symL_named' (mkVals_named (by intro v hv; simp only [base, List.mem_cons, List.not_mem_nil, or_false] at hv; rcases hv with rfl | rfl | rfl <;> trivial) nam_ok) i
theorem names_ok (a0 : Int) (a1 : Int) (x0 : Nat) (h0 : 0 ≤ x0 ∧ x0 < 50) (w0 : -9223372036854775808 ≤ a0 ∧ a0 ≤ 9223372036854775807) (w1 : -9223372036854775808 ≤ a1 ∧ a1 ≤ 9223372036854775807) : NamesOk (G a0 a1 x0) (Names.ofL tab) := namesOk_parts (named_ok a0 a1 x0) len_ok (TabOk.union (symTab_part (l := base a0 a1 x0) rfl (kinv a0 a1 x0 h0 w0 w1) refs_ok sym_ok) (tab0_ok a0 a1 x0 h0 ))
theorem crc_ok (a0 : Int) (a1 : Int) (x0 : Nat) : CrcOk (G a0 a1 x0) crcs := crcsB_ok (l := base a0 a1 x0) refs_ok crcs_ok
end Go.Proofs.YtemmgompegkgkaaGreatDoor.topspoof.k0
namespace Go.Proofs.YtemmgompegkgkaaGreatDoor.topspoof.k1
open Go Vai
set_option linter.unusedVariables false
set_option linter.unusedSimpArgs false
noncomputable def ds : List NDef := [.ent 0 (jn 2) (cn 4098),
  .ent 3 (cn 4099) (jn 256),
  .ent 36 (cn 4100) (bn 0),
  .ent 4 (cn 4099) (jn 256),
  .ent 36 (cn 4102) (bn 0),
  .ent 8 (cn 4100) (.int .u64 (.ofNat 8))]
noncomputable def tabS : List NInfo := [z0,
  z0,
  ⟨none, none, [⟨0, jn 2, cn 4098, cn 4099⟩]⟩,
  ⟨none, none, [⟨3, cn 4099, jn 256, cn 4100⟩, ⟨4, cn 4099, jn 256, cn 4102⟩]⟩,
  ⟨none, none, [⟨36, cn 4100, bn 0, cn 4101⟩]⟩,
  z0,
  ⟨none, none, [⟨36, cn 4102, bn 0, cn 4103⟩]⟩,
  z0,
  z0]
noncomputable def tabH : List NInfo := [z0,
  z0,
  ⟨some (.i64, (.ofNat 0), (.ofNat 59999)), none, []⟩,
  ⟨some (.i64, (.ofNat 2), (.ofNat 60001)), none, []⟩,
  ⟨some (.i64, (.ofNat 0), (.ofNat 234)), none, [⟨8, cn 4100, .int .u64 (.ofNat 8), cn 4104⟩]⟩,
  ⟨some (.u8, (.ofNat 0), (.ofNat 234)), none, [⟨35, cn 4101, bn 0, cn 4100⟩]⟩,
  ⟨some (.i64, (.ofNat 0), (.ofNat 255)), none, []⟩,
  ⟨some (.u8, (.ofNat 0), (.ofNat 255)), none, [⟨35, cn 4103, bn 0, cn 4102⟩]⟩,
  ⟨some (.i64, (.ofNat 0), (.ofNat 59904)), none, [⟨6, cn 4104, cn 4102, cn 4099⟩]⟩]
noncomputable def tab : List NInfo := (unionT tabS tabH)
noncomputable def crcs : List (List Value × Value) := []
noncomputable abbrev base (a0 : Int) (a1 : Int) (x0 : Nat) : List Value := [.int .i64 a0, .int .i64 a1, .int .i64 (.ofNat x0)]
noncomputable abbrev G (a0 : Int) (a1 : Int) (x0 : Nat) : Sym := symL (mkVals ds (base a0 a1 x0))
set_option maxRecDepth 100000 in
theorem refs_ok : refsAll ds 3 = true := by kernel_rfl
set_option maxRecDepth 100000 in
theorem nam_ok : namDs ds = true := by kernel_rfl
set_option maxRecDepth 100000 in
theorem len_ok : Nat.ble tab.length 4096 = true := by kernel_rfl
set_option maxRecDepth 100000 in
theorem crcs_ok : crcsB ds 3 crcs = true := by kernel_rfl
set_option maxRecDepth 100000 in
theorem sym_ok : symTab (ksOf ds [some .i64, some .i64, some .i64]) ds 3 tabS 0 = true := by kernel_rfl
theorem gb0 (a0 : Int) (a1 : Int) (x0 : Nat) : G a0 a1 x0 (4096 - 4096) = .int .i64 a0 := by
  show symL (mkVals ds (base a0 a1 x0)) 0 = _
  rw [symL_low ds (base a0 a1 x0) 0 (by simp)]
  rfl
theorem gb1 (a0 : Int) (a1 : Int) (x0 : Nat) : G a0 a1 x0 (4097 - 4096) = .int .i64 a1 := by
  show symL (mkVals ds (base a0 a1 x0)) 1 = _
  rw [symL_low ds (base a0 a1 x0) 1 (by simp)]
  rfl
theorem gb2 (a0 : Int) (a1 : Int) (x0 : Nat) : G a0 a1 x0 (4098 - 4096) = .int .i64 (.ofNat x0) := by
  show symL (mkVals ds (base a0 a1 x0)) 2 = _
  rw [symL_low ds (base a0 a1 x0) 2 (by simp)]
  rfl
theorem hv3 (a0 : Int) (a1 : Int) (x0 : Nat) (h0 : 0 ≤ x0 ∧ x0 < 60000) : G a0 a1 x0 (4099 - 4096) = .int .i64 (.ofNat (2 + x0)) := by
  have hs : ds[0]? = some (.ent 0 (jn 2) (cn 4098)) := rfl
  have hd := mkVals_def (l := base a0 a1 x0) hs (refsAll_get refs_ok hs)
  have hd : G a0 a1 x0 3 = entE 0 (gv (G a0 a1 x0) (jn 2)) (gv (G a0 a1 x0) (cn 4098)) := hd
  rw [gv_chan 4098, gb2 a0 a1 x0] at hd
  exact hd.trans (entE_of (by decide) (e_add .i64 2 x0 (2 + x0) rfl (by show _ ≤ _; simp only [posMax]; omega)))
theorem hv4 (a0 : Int) (a1 : Int) (x0 : Nat) (h0 : 0 ≤ x0 ∧ x0 < 60000) : G a0 a1 x0 (4100 - 4096) = .int .i64 (.ofNat ((2 + x0) / 256)) := by
  have hs : ds[1]? = some (.ent 3 (cn 4099) (jn 256)) := rfl
  have hd := mkVals_def (l := base a0 a1 x0) hs (refsAll_get refs_ok hs)
  have hd : G a0 a1 x0 4 = entE 3 (gv (G a0 a1 x0) (cn 4099)) (gv (G a0 a1 x0) (jn 256)) := hd
  rw [gv_chan 4099, hv3 a0 a1 x0 h0 ] at hd
  exact hd.trans (entE_of (by decide) (e_quo .i64 (2 + x0) 256 ((2 + x0) / 256) (by decide) rfl (by show _ ≤ _; simp only [posMax]; omega)))
theorem hv5 (a0 : Int) (a1 : Int) (x0 : Nat) (h0 : 0 ≤ x0 ∧ x0 < 60000) : G a0 a1 x0 (4101 - 4096) = .int .u8 (.ofNat ((2 + x0) / 256)) := by
  have hs : ds[2]? = some (.ent 36 (cn 4100) (bn 0)) := rfl
  have hd := mkVals_def (l := base a0 a1 x0) hs (refsAll_get refs_ok hs)
  have hd : G a0 a1 x0 5 = entE 36 (gv (G a0 a1 x0) (cn 4100)) (gv (G a0 a1 x0) (bn 0)) := hd
  rw [gv_chan 4100, hv4 a0 a1 x0 h0 ] at hd
  exact hd.trans (entE_conv (k' := .u8) (e_convm .i64 .u8 _ ((2 + x0) / 256) ((2 + x0) / 256) rfl (by simp only [modK]; omega)))
theorem hv6 (a0 : Int) (a1 : Int) (x0 : Nat) (h0 : 0 ≤ x0 ∧ x0 < 60000) : G a0 a1 x0 (4102 - 4096) = .int .i64 (.ofNat ((2 + x0) % 256)) := by
  have hs : ds[3]? = some (.ent 4 (cn 4099) (jn 256)) := rfl
  have hd := mkVals_def (l := base a0 a1 x0) hs (refsAll_get refs_ok hs)
  have hd : G a0 a1 x0 6 = entE 4 (gv (G a0 a1 x0) (cn 4099)) (gv (G a0 a1 x0) (jn 256)) := hd
  rw [gv_chan 4099, hv3 a0 a1 x0 h0 ] at hd
  exact hd.trans (entE_of (by decide) (e_rem .i64 (2 + x0) 256 ((2 + x0) % 256) (by decide) rfl))
theorem hv7 (a0 : Int) (a1 : Int) (x0 : Nat) (h0 : 0 ≤ x0 ∧ x0 < 60000) : G a0 a1 x0 (4103 - 4096) = .int .u8 (.ofNat ((2 + x0) % 256)) := by
  have hs : ds[4]? = some (.ent 36 (cn 4102) (bn 0)) := rfl
  have hd := mkVals_def (l := base a0 a1 x0) hs (refsAll_get refs_ok hs)
  have hd : G a0 a1 x0 7 = entE 36 (gv (G a0 a1 x0) (cn 4102)) (gv (G a0 a1 x0) (bn 0)) := hd
  rw [gv_chan 4102, hv6 a0 a1 x0 h0 ] at hd
  exact hd.trans (entE_conv (k' := .u8) (e_convm .i64 .u8 _ ((2 + x0) % 256) ((2 + x0) % 256) rfl (by simp only [modK]; omega)))
theorem hv8 (a0 : Int) (a1 : Int) (x0 : Nat) (h0 : 0 ≤ x0 ∧ x0 < 60000) : G a0 a1 x0 (4104 - 4096) = .int .i64 (.ofNat (((2 + x0) / 256) * 256)) := by
  have hs : ds[5]? = some (.ent 8 (cn 4100) (.int .u64 (.ofNat 8))) := rfl
  have hd := mkVals_def (l := base a0 a1 x0) hs (refsAll_get refs_ok hs)
  have hd : G a0 a1 x0 8 = entE 8 (gv (G a0 a1 x0) (cn 4100)) (gv (G a0 a1 x0) (.int .u64 (.ofNat 8))) := hd
  rw [gv_chan 4100, hv4 a0 a1 x0 h0 ] at hd
  exact hd.trans (entE_of (by decide) (e_shl .i64 .u64 ((2 + x0) / 256) 8 (((2 + x0) / 256) * 256) (by decide) rfl (by show _ ≤ _; simp only [posMax]; omega)))
theorem tabH_2 (a0 : Int) (a1 : Int) (x0 : Nat) (h0 : 0 ≤ x0 ∧ x0 < 60000) (w0 : -9223372036854775808 ≤ a0 ∧ a0 ≤ 9223372036854775807) (w1 : -9223372036854775808 ≤ a1 ∧ a1 ≤ 9223372036854775807) : InfoOk (G a0 a1 x0) 2 ⟨some (.i64, (.ofNat 0), (.ofNat 59999)), none, []⟩ := (infoOk_rng (gb2 a0 a1 x0) (by simp only [Int.ofNat_eq_natCast]; omega) (by simp only [Int.ofNat_eq_natCast]; omega))
theorem tabH_3 (a0 : Int) (a1 : Int) (x0 : Nat) (h0 : 0 ≤ x0 ∧ x0 < 60000) (w0 : -9223372036854775808 ≤ a0 ∧ a0 ≤ 9223372036854775807) (w1 : -9223372036854775808 ≤ a1 ∧ a1 ≤ 9223372036854775807) : InfoOk (G a0 a1 x0) 3 ⟨some (.i64, (.ofNat 2), (.ofNat 60001)), none, []⟩ := (infoOk_rng (hv3 a0 a1 x0 h0 ) (by simp only [Int.ofNat_eq_natCast]; omega) (by simp only [Int.ofNat_eq_natCast]; omega))
theorem tabH_4 (a0 : Int) (a1 : Int) (x0 : Nat) (h0 : 0 ≤ x0 ∧ x0 < 60000) (w0 : -9223372036854775808 ≤ a0 ∧ a0 ≤ 9223372036854775807) (w1 : -9223372036854775808 ≤ a1 ∧ a1 ≤ 9223372036854775807) : InfoOk (G a0 a1 x0) 4 ⟨some (.i64, (.ofNat 0), (.ofNat 234)), none, [⟨8, cn 4100, .int .u64 (.ofNat 8), cn 4104⟩]⟩ := (infoOk_cons rfl rfl rfl (by rw [gv_chan 4100, hv4 a0 a1 x0 h0 , gv_chan 4104, hv8 a0 a1 x0 h0 ]; exact e_shl .i64 .u64 ((2 + x0) / 256) 8 (((2 + x0) / 256) * 256) (by decide) rfl (by show _ ≤ _; simp only [posMax]; omega)) (infoOk_rng (hv4 a0 a1 x0 h0 ) (by simp only [Int.ofNat_eq_natCast]; omega) (by simp only [Int.ofNat_eq_natCast]; omega)))
theorem tabH_5 (a0 : Int) (a1 : Int) (x0 : Nat) (h0 : 0 ≤ x0 ∧ x0 < 60000) (w0 : -9223372036854775808 ≤ a0 ∧ a0 ≤ 9223372036854775807) (w1 : -9223372036854775808 ≤ a1 ∧ a1 ≤ 9223372036854775807) : InfoOk (G a0 a1 x0) 5 ⟨some (.u8, (.ofNat 0), (.ofNat 234)), none, [⟨35, cn 4101, bn 0, cn 4100⟩]⟩ := (infoOk_cons rfl rfl rfl (by rw [gv_chan 4101, hv5 a0 a1 x0 h0 , gv_chan 4100, hv4 a0 a1 x0 h0 ]; exact e_conv .u8 .i64 _ ((2 + x0) / 256) ((2 + x0) / 256) rfl (by show _ ≤ _; simp only [posMax]; omega)) (infoOk_rng (hv5 a0 a1 x0 h0 ) (by simp only [Int.ofNat_eq_natCast]; omega) (by simp only [Int.ofNat_eq_natCast]; omega)))
theorem tabH_6 (a0 : Int) (a1 : Int) (x0 : Nat) (h0 : 0 ≤ x0 ∧ x0 < 60000) (w0 : -9223372036854775808 ≤ a0 ∧ a0 ≤ 9223372036854775807) (w1 : -9223372036854775808 ≤ a1 ∧ a1 ≤ 9223372036854775807) : InfoOk (G a0 a1 x0) 6 ⟨some (.i64, (.ofNat 0), (.ofNat 255)), none, []⟩ := (infoOk_rng (hv6 a0 a1 x0 h0 ) (by simp only [Int.ofNat_eq_natCast]; omega) (by simp only [Int.ofNat_eq_natCast]; omega))
theorem tabH_7 (a0 : Int) (a1 : Int) (x0 : Nat) (h0 : 0 ≤ x0 ∧ x0 < 60000) (w0 : -9223372036854775808 ≤ a0 ∧ a0 ≤ 9223372036854775807) (w1 : -9223372036854775808 ≤ a1 ∧ a1 ≤ 9223372036854775807) : InfoOk (G a0 a1 x0) 7 ⟨some (.u8, (.ofNat 0), (.ofNat 255)), none, [⟨35, cn 4103, bn 0, cn 4102⟩]⟩ := (infoOk_cons rfl rfl rfl (by rw [gv_chan 4103, hv7 a0 a1 x0 h0 , gv_chan 4102, hv6 a0 a1 x0 h0 ]; exact e_conv .u8 .i64 _ ((2 + x0) % 256) ((2 + x0) % 256) rfl (by show _ ≤ _; simp only [posMax]; omega)) (infoOk_rng (hv7 a0 a1 x0 h0 ) (by simp only [Int.ofNat_eq_natCast]; omega) (by simp only [Int.ofNat_eq_natCast]; omega)))
theorem tabH_8 (a0 : Int) (a1 : Int) (x0 : Nat) (h0 : 0 ≤ x0 ∧ x0 < 60000) (w0 : -9223372036854775808 ≤ a0 ∧ a0 ≤ 9223372036854775807) (w1 : -9223372036854775808 ≤ a1 ∧ a1 ≤ 9223372036854775807) : InfoOk (G a0 a1 x0) 8 ⟨some (.i64, (.ofNat 0), (.ofNat 59904)), none, [⟨6, cn 4104, cn 4102, cn 4099⟩]⟩ := (infoOk_cons rfl rfl rfl (by rw [gv_chan 4104, hv8 a0 a1 x0 h0 , gv_chan 4102, hv6 a0 a1 x0 h0 , gv_chan 4099, hv3 a0 a1 x0 h0 ]; exact e_or .i64 8 (((2 + x0) / 256) * 256) ((2 + x0) % 256) (2 + x0) (by simp only [Nat.reducePow]; omega) (by simp only [Nat.reducePow]; omega) (by omega) (by show _ ≤ _; simp only [posMax]; omega)) (infoOk_rng (hv8 a0 a1 x0 h0 ) (by simp only [Int.ofNat_eq_natCast]; omega) (by simp only [Int.ofNat_eq_natCast]; omega)))
theorem tabH_ok (a0 : Int) (a1 : Int) (x0 : Nat) (h0 : 0 ≤ x0 ∧ x0 < 60000) (w0 : -9223372036854775808 ≤ a0 ∧ a0 ≤ 9223372036854775807) (w1 : -9223372036854775808 ≤ a1 ∧ a1 ≤ 9223372036854775807) : TabOk (G a0 a1 x0) tabH := by
  intro j f hf
  match j, hf with
  | 0, hf => obtain rfl := Option.some.inj (show some (z0 : NInfo) = some f from hf); exact infoOk_nil
  | 1, hf => obtain rfl := Option.some.inj (show some (z0 : NInfo) = some f from hf); exact infoOk_nil
  | 2, hf => obtain rfl := Option.some.inj (show some (⟨some (.i64, (.ofNat 0), (.ofNat 59999)), none, []⟩ : NInfo) = some f from hf); exact tabH_2 a0 a1 x0 h0  w0 w1 
  | 3, hf => obtain rfl := Option.some.inj (show some (⟨some (.i64, (.ofNat 2), (.ofNat 60001)), none, []⟩ : NInfo) = some f from hf); exact tabH_3 a0 a1 x0 h0  w0 w1 
  | 4, hf => obtain rfl := Option.some.inj (show some (⟨some (.i64, (.ofNat 0), (.ofNat 234)), none, [⟨8, cn 4100, .int .u64 (.ofNat 8), cn 4104⟩]⟩ : NInfo) = some f from hf); exact tabH_4 a0 a1 x0 h0  w0 w1 
  | 5, hf => obtain rfl := Option.some.inj (show some (⟨some (.u8, (.ofNat 0), (.ofNat 234)), none, [⟨35, cn 4101, bn 0, cn 4100⟩]⟩ : NInfo) = some f from hf); exact tabH_5 a0 a1 x0 h0  w0 w1 
  | 6, hf => obtain rfl := Option.some.inj (show some (⟨some (.i64, (.ofNat 0), (.ofNat 255)), none, []⟩ : NInfo) = some f from hf); exact tabH_6 a0 a1 x0 h0  w0 w1 
  | 7, hf => obtain rfl := Option.some.inj (show some (⟨some (.u8, (.ofNat 0), (.ofNat 255)), none, [⟨35, cn 4103, bn 0, cn 4102⟩]⟩ : NInfo) = some f from hf); exact tabH_7 a0 a1 x0 h0  w0 w1 
  | 8, hf => obtain rfl := Option.some.inj (show some (⟨some (.i64, (.ofNat 0), (.ofNat 59904)), none, [⟨6, cn 4104, cn 4102, cn 4099⟩]⟩ : NInfo) = some f from hf); exact tabH_8 a0 a1 x0 h0  w0 w1 
  | n + 9, hf => exact absurd hf (by simp [tabH])
theorem kinv (a0 : Int) (a1 : Int) (x0 : Nat) (h0 : 0 ≤ x0 ∧ x0 < 60000) (w0 : -9223372036854775808 ≤ a0 ∧ a0 ≤ 9223372036854775807) (w1 : -9223372036854775808 ≤ a1 ∧ a1 ≤ 9223372036854775807) : KInv (symL (base a0 a1 x0)) [some .i64, some .i64, some .i64] := by
  intro i k hi
  match i, hi with
  | 0, hi => cases hi; exact ⟨a0, rfl, by rw [inK_iff]; exact w0⟩
  | 1, hi => cases hi; exact ⟨a1, rfl, by rw [inK_iff]; exact w1⟩
  | 2, hi => cases hi; exact ⟨.ofNat x0, rfl, by rw [inK_iff]; show (-9223372036854775808 : Int) ≤ (x0 : Int) ∧ (x0 : Int) ≤ 9223372036854775807; omega⟩
  | n + 3, hi => cases hi
theorem named_ok (a0 : Int) (a1 : Int) (x0 : Nat) (i : Nat) : named (G a0 a1 x0 i) := symL_named' (mkVals_named (by intro v hv; simp only [base, List.mem_cons, List.not_mem_nil, or_false] at hv; rcases hv with rfl | rfl | rfl <;> trivial) nam_ok) i
theorem names_ok (a0 : Int) (a1 : Int) (x0 : Nat) (h0 : 0 ≤ x0 ∧ x0 < 60000) (w0 : -9223372036854775808 ≤ a0 ∧ a0 ≤ 9223372036854775807) (w1 : -9223372036854775808 ≤ a1 ∧ a1 ≤ 9223372036854775807) : NamesOk (G a0 a1 x0) (Names.ofL tab) := namesOk_parts (named_ok a0 a1 x0) len_ok (TabOk.union (symTab_part (l := base a0 a1 x0) rfl (kinv a0 a1 x0 h0 w0 w1) refs_ok sym_ok) (tabH_ok a0 a1 x0 h0  w0 w1 ))
theorem crc_ok (a0 : Int) (a1 : Int) (x0 : Nat) : CrcOk (G a0 a1 x0) crcs := crcsB_ok (l := base a0 a1 x0) refs_ok crcs_ok
end Go.Proofs.YtemmgompegkgkaaGreatDoor.topspoof.k1
namespace Go.Proofs.YtemmgompegkgkaaGreatDoor.topspoof.k2
open Go Vai
set_option linter.unusedVariables false
set_option linter.unusedSimpArgs false
noncomputable def ds : List NDef := []
noncomputable def tabS : List NInfo := [z0,
  z0]
noncomputable def tab : List NInfo := tabS
noncomputable def crcs : List (List Value × Value) := []
noncomputable abbrev base (a0 : Int) (a1 : Int) : List Value := [.int .i64 a0, .int .i64 a1]
noncomputable abbrev G (a0 : Int) (a1 : Int) : Sym := symL (mkVals ds (base a0 a1 ))
set_option maxRecDepth 100000 in
theorem refs_ok : refsAll ds 2 = true := by kernel_rfl
set_option maxRecDepth 100000 in
theorem nam_ok : namDs ds = true := by kernel_rfl
set_option maxRecDepth 100000 in
theorem len_ok : Nat.ble tab.length 4096 = true := by kernel_rfl
set_option maxRecDepth 100000 in
theorem crcs_ok : crcsB ds 2 crcs = true := by kernel_rfl
set_option maxRecDepth 100000 in
theorem sym_ok : symTab (ksOf ds [some .i64, some .i64]) ds 2 tabS 0 = true := by kernel_rfl
theorem gb0 (a0 : Int) (a1 : Int) : G a0 a1  (4096 - 4096) = .int .i64 a0 := by
  show symL (mkVals ds (base a0 a1 )) 0 = _
  rw [symL_low ds (base a0 a1 ) 0 (by simp)]
  rfl
theorem gb1 (a0 : Int) (a1 : Int) : G a0 a1  (4097 - 4096) = .int .i64 a1 := by
  show symL (mkVals ds (base a0 a1 )) 1 = _
  rw [symL_low ds (base a0 a1 ) 1 (by simp)]
  rfl
theorem kinv (a0 : Int) (a1 : Int) (w0 : -9223372036854775808 ≤ a0 ∧ a0 ≤ 9223372036854775807) (w1 : -9223372036854775808 ≤ a1 ∧ a1 ≤ 9223372036854775807) : KInv (symL (base a0 a1 )) [some .i64, some .i64] := by
  intro i k hi
  match i, hi with
  | 0, hi => cases hi; exact ⟨a0, rfl, by rw [inK_iff]; exact w0⟩
  | 1, hi => cases hi; exact ⟨a1, rfl, by rw [inK_iff]; exact w1⟩
  | n + 2, hi => cases hi
theorem named_ok (a0 : Int) (a1 : Int) (i : Nat) : named (G a0 a1  i) := symL_named' (mkVals_named (by intro v hv; simp only [base, List.mem_cons, List.not_mem_nil, or_false] at hv; rcases hv with rfl | rfl <;> trivial) nam_ok) i
theorem names_ok (a0 : Int) (a1 : Int) (w0 : -9223372036854775808 ≤ a0 ∧ a0 ≤ 9223372036854775807) (w1 : -9223372036854775808 ≤ a1 ∧ a1 ≤ 9223372036854775807) : NamesOk (G a0 a1 ) (Names.ofL tab) := namesOk_parts (named_ok a0 a1 ) len_ok (symTab_part (l := base a0 a1 ) rfl (kinv a0 a1   w0 w1) refs_ok sym_ok)
theorem crc_ok (a0 : Int) (a1 : Int) : CrcOk (G a0 a1 ) crcs := crcsB_ok (l := base a0 a1 ) refs_ok crcs_ok
end Go.Proofs.YtemmgompegkgkaaGreatDoor.topspoof.k2
