/- The law TopFiles: names by classes of its inputs, their makings, their tables, and the check of these. -/
import Derived.Test.YtpficieiefgbfaaGreatDoorVG
import Derived.Test.YtpficieiefgbfaaGreatDoorTB
import Derived.KernelRfl
namespace Go.Proofs.YtpficieiefgbfaaGreatDoor.topfiles.d22
open Go Vai
set_option linter.unusedVariables false
set_option linter.unusedSimpArgs false
noncomputable def ds : List NDef := [.idx .u8 (.chan (some 4098)) 10 [.ofNat 49, .ofNat 49, .ofNat 49, .ofNat 49, .ofNat 49, .ofNat 49, .ofNat 49, .ofNat 49, .ofNat 49, .ofNat 49, .ofNat 50, .ofNat 50, .ofNat 50, .ofNat 50, .ofNat 50, .ofNat 50, .ofNat 50, .ofNat 50, .ofNat 50, .ofNat 50, .ofNat 51, .ofNat 51, .ofNat 51, .ofNat 51, .ofNat 51, .ofNat 51, .ofNat 51, .ofNat 51, .ofNat 51, .ofNat 51, .ofNat 52, .ofNat 52, .ofNat 52, .ofNat 52, .ofNat 52, .ofNat 52, .ofNat 52, .ofNat 52, .ofNat 52, .ofNat 52, .ofNat 53, .ofNat 53, .ofNat 53, .ofNat 53, .ofNat 53, .ofNat 53, .ofNat 53, .ofNat 53, .ofNat 53, .ofNat 53, .ofNat 54, .ofNat 54, .ofNat 54, .ofNat 54, .ofNat 54, .ofNat 54, .ofNat 54, .ofNat 54, .ofNat 54, .ofNat 54, .ofNat 55, .ofNat 55, .ofNat 55, .ofNat 55, .ofNat 55, .ofNat 55, .ofNat 55, .ofNat 55, .ofNat 55, .ofNat 55, .ofNat 56, .ofNat 56, .ofNat 56, .ofNat 56, .ofNat 56, .ofNat 56, .ofNat 56, .ofNat 56, .ofNat 56, .ofNat 56, .ofNat 57, .ofNat 57, .ofNat 57, .ofNat 57, .ofNat 57, .ofNat 57, .ofNat 57, .ofNat 57, .ofNat 57, .ofNat 57],
  .idx .u8 (.chan (some 4098)) 10 [.ofNat 48, .ofNat 49, .ofNat 50, .ofNat 51, .ofNat 52, .ofNat 53, .ofNat 54, .ofNat 55, .ofNat 56, .ofNat 57, .ofNat 48, .ofNat 49, .ofNat 50, .ofNat 51, .ofNat 52, .ofNat 53, .ofNat 54, .ofNat 55, .ofNat 56, .ofNat 57, .ofNat 48, .ofNat 49, .ofNat 50, .ofNat 51, .ofNat 52, .ofNat 53, .ofNat 54, .ofNat 55, .ofNat 56, .ofNat 57, .ofNat 48, .ofNat 49, .ofNat 50, .ofNat 51, .ofNat 52, .ofNat 53, .ofNat 54, .ofNat 55, .ofNat 56, .ofNat 57, .ofNat 48, .ofNat 49, .ofNat 50, .ofNat 51, .ofNat 52, .ofNat 53, .ofNat 54, .ofNat 55, .ofNat 56, .ofNat 57, .ofNat 48, .ofNat 49, .ofNat 50, .ofNat 51, .ofNat 52, .ofNat 53, .ofNat 54, .ofNat 55, .ofNat 56, .ofNat 57, .ofNat 48, .ofNat 49, .ofNat 50, .ofNat 51, .ofNat 52, .ofNat 53, .ofNat 54, .ofNat 55, .ofNat 56, .ofNat 57, .ofNat 48, .ofNat 49, .ofNat 50, .ofNat 51, .ofNat 52, .ofNat 53, .ofNat 54, .ofNat 55, .ofNat 56, .ofNat 57, .ofNat 48, .ofNat 49, .ofNat 50, .ofNat 51, .ofNat 52, .ofNat 53, .ofNat 54, .ofNat 55, .ofNat 56, .ofNat 57],
  .str [.chan (some 4100), .chan (some 4101)],
  .str [.int .u8 (.ofNat 49), .int .u8 (.ofNat 48), .int .u8 (.ofNat 46), .int .u8 (.ofNat 48), .int .u8 (.ofNat 46), .int .u8 (.ofNat 48), .int .u8 (.ofNat 46), .chan (some 4100), .chan (some 4101)],
  .str [.int .u8 (.ofNat 49), .int .u8 (.ofNat 48), .int .u8 (.ofNat 46), .int .u8 (.ofNat 48), .int .u8 (.ofNat 46), .int .u8 (.ofNat 48), .int .u8 (.ofNat 46), .chan (some 4100), .chan (some 4101), .int .u8 (.ofNat 32), .int .u8 (.ofNat 104), .int .u8 (.ofNat 10)],
  .str [.int .u8 (.ofNat 49), .int .u8 (.ofNat 48), .int .u8 (.ofNat 46), .int .u8 (.ofNat 48), .int .u8 (.ofNat 46), .int .u8 (.ofNat 48), .int .u8 (.ofNat 46), .chan (some 4100), .chan (some 4101), .int .u8 (.ofNat 32), .int .u8 (.ofNat 104)],
  .ent 34 (.chan (some 4100)) (.int .u8 (.ofNat 0)),
  .ent 34 (.chan (some 4101)) (.int .u8 (.ofNat 0)),
  .str [.int .u8 (.ofNat 48), .int .u8 (.ofNat 46), .int .u8 (.ofNat 48), .int .u8 (.ofNat 46), .chan (some 4100), .chan (some 4101)],
  .str [.int .u8 (.ofNat 48), .int .u8 (.ofNat 46), .chan (some 4100), .chan (some 4101)],
  .ent 1 (.chan (some 4100)) (.int .u8 (.ofNat 48)),
  .ent 39 (.chan (some 4110)) (.int .u8 (.ofNat 0)),
  .ent 1 (.chan (some 4101)) (.int .u8 (.ofNat 48)),
  .ent 2 (.chan (some 4111)) (.int .u64 (.ofNat 10)),
  .ent 39 (.chan (some 4112)) (.int .u8 (.ofNat 0)),
  .ent 0 (.chan (some 4113)) (.chan (some 4114)),
  .ent 36 (.chan (some 4115)) (.int .u8 (.ofNat 0)),
  .str [.int .u8 (.ofNat 10), .int .u8 (.ofNat 0), .int .u8 (.ofNat 0), .chan (some 4116)],
  .str [.int .u8 (.ofNat 0), .int .u8 (.ofNat 0), .int .u8 (.ofNat 0), .int .u8 (.ofNat 0), .int .u8 (.ofNat 0), .int .u8 (.ofNat 0), .int .u8 (.ofNat 0), .int .u8 (.ofNat 0), .int .u8 (.ofNat 0), .int .u8 (.ofNat 0), .int .u8 (.ofNat 255), .int .u8 (.ofNat 255), .int .u8 (.ofNat 10), .int .u8 (.ofNat 0), .int .u8 (.ofNat 0), .chan (some 4116)],
  .crc [.int .u8 (.ofNat 1), .int .u8 (.ofNat 3), .int .u8 (.ofNat 0), .int .u8 (.ofNat 49), .int .u8 (.ofNat 47), .int .u8 (.ofNat 104), .int .u8 (.ofNat 0), .int .u8 (.ofNat 0), .int .u8 (.ofNat 0), .int .u8 (.ofNat 0), .int .u8 (.ofNat 0), .int .u8 (.ofNat 0), .int .u8 (.ofNat 0), .int .u8 (.ofNat 0), .int .u8 (.ofNat 0), .int .u8 (.ofNat 0), .int .u8 (.ofNat 0), .int .u8 (.ofNat 0), .int .u8 (.ofNat 0), .int .u8 (.ofNat 0), .int .u8 (.ofNat 0), .int .u8 (.ofNat 0), .int .u8 (.ofNat 88), .int .u8 (.ofNat 2), .int .u8 (.ofNat 0), .int .u8 (.ofNat 0), .int .u8 (.ofNat 0), .int .u8 (.ofNat 0), .int .u8 (.ofNat 0), .int .u8 (.ofNat 0), .int .u8 (.ofNat 88), .int .u8 (.ofNat 2), .int .u8 (.ofNat 0), .int .u8 (.ofNat 0), .int .u8 (.ofNat 0), .int .u8 (.ofNat 0), .int .u8 (.ofNat 0), .int .u8 (.ofNat 0), .int .u8 (.ofNat 0), .int .u8 (.ofNat 1), .int .u8 (.ofNat 4), .int .u8 (.ofNat 0), .int .u8 (.ofNat 10), .int .u8 (.ofNat 0), .int .u8 (.ofNat 0), .chan (some 4116), .int .u8 (.ofNat 1), .int .u8 (.ofNat 10), .int .u8 (.ofNat 0), .int .u8 (.ofNat 47), .int .u8 (.ofNat 101), .int .u8 (.ofNat 116), .int .u8 (.ofNat 99), .int .u8 (.ofNat 47), .int .u8 (.ofNat 104), .int .u8 (.ofNat 111), .int .u8 (.ofNat 115), .int .u8 (.ofNat 116), .int .u8 (.ofNat 115), .int .u8 (.ofNat 1), .int .u8 (.ofNat 0), .int .u8 (.ofNat 0), .int .u8 (.ofNat 0), .int .u8 (.ofNat 0), .int .u8 (.ofNat 0), .int .u8 (.ofNat 0), .int .u8 (.ofNat 0)],
  .ent 39 (.chan (some 4119)) (.int .u8 (.ofNat 0)),
  .ent 9 (.chan (some 4120)) (.int .i64 (.ofNat 0)),
  .ent 36 (.chan (some 4121)) (.int .u8 (.ofNat 0)),
  .ent 9 (.chan (some 4120)) (.int .i64 (.ofNat 8)),
  .ent 36 (.chan (some 4123)) (.int .u8 (.ofNat 0)),
  .ent 9 (.chan (some 4120)) (.int .i64 (.ofNat 16)),
  .ent 36 (.chan (some 4125)) (.int .u8 (.ofNat 0)),
  .ent 9 (.chan (some 4120)) (.int .i64 (.ofNat 24)),
  .ent 36 (.chan (some 4127)) (.int .u8 (.ofNat 0)),
  .idx .u8 (.chan (some 4099)) 10 [.ofNat 49, .ofNat 49, .ofNat 49, .ofNat 49, .ofNat 49, .ofNat 49, .ofNat 49, .ofNat 49, .ofNat 49, .ofNat 49, .ofNat 50, .ofNat 50, .ofNat 50, .ofNat 50, .ofNat 50, .ofNat 50, .ofNat 50, .ofNat 50, .ofNat 50, .ofNat 50, .ofNat 51, .ofNat 51, .ofNat 51, .ofNat 51, .ofNat 51, .ofNat 51, .ofNat 51, .ofNat 51, .ofNat 51, .ofNat 51, .ofNat 52, .ofNat 52, .ofNat 52, .ofNat 52, .ofNat 52, .ofNat 52, .ofNat 52, .ofNat 52, .ofNat 52, .ofNat 52, .ofNat 53, .ofNat 53, .ofNat 53, .ofNat 53, .ofNat 53, .ofNat 53, .ofNat 53, .ofNat 53, .ofNat 53, .ofNat 53, .ofNat 54, .ofNat 54, .ofNat 54, .ofNat 54, .ofNat 54, .ofNat 54, .ofNat 54, .ofNat 54, .ofNat 54, .ofNat 54, .ofNat 55, .ofNat 55, .ofNat 55, .ofNat 55, .ofNat 55, .ofNat 55, .ofNat 55, .ofNat 55, .ofNat 55, .ofNat 55, .ofNat 56, .ofNat 56, .ofNat 56, .ofNat 56, .ofNat 56, .ofNat 56, .ofNat 56, .ofNat 56, .ofNat 56, .ofNat 56, .ofNat 57, .ofNat 57, .ofNat 57, .ofNat 57, .ofNat 57, .ofNat 57, .ofNat 57, .ofNat 57, .ofNat 57, .ofNat 57],
  .idx .u8 (.chan (some 4099)) 10 [.ofNat 48, .ofNat 49, .ofNat 50, .ofNat 51, .ofNat 52, .ofNat 53, .ofNat 54, .ofNat 55, .ofNat 56, .ofNat 57, .ofNat 48, .ofNat 49, .ofNat 50, .ofNat 51, .ofNat 52, .ofNat 53, .ofNat 54, .ofNat 55, .ofNat 56, .ofNat 57, .ofNat 48, .ofNat 49, .ofNat 50, .ofNat 51, .ofNat 52, .ofNat 53, .ofNat 54, .ofNat 55, .ofNat 56, .ofNat 57, .ofNat 48, .ofNat 49, .ofNat 50, .ofNat 51, .ofNat 52, .ofNat 53, .ofNat 54, .ofNat 55, .ofNat 56, .ofNat 57, .ofNat 48, .ofNat 49, .ofNat 50, .ofNat 51, .ofNat 52, .ofNat 53, .ofNat 54, .ofNat 55, .ofNat 56, .ofNat 57, .ofNat 48, .ofNat 49, .ofNat 50, .ofNat 51, .ofNat 52, .ofNat 53, .ofNat 54, .ofNat 55, .ofNat 56, .ofNat 57, .ofNat 48, .ofNat 49, .ofNat 50, .ofNat 51, .ofNat 52, .ofNat 53, .ofNat 54, .ofNat 55, .ofNat 56, .ofNat 57, .ofNat 48, .ofNat 49, .ofNat 50, .ofNat 51, .ofNat 52, .ofNat 53, .ofNat 54, .ofNat 55, .ofNat 56, .ofNat 57, .ofNat 48, .ofNat 49, .ofNat 50, .ofNat 51, .ofNat 52, .ofNat 53, .ofNat 54, .ofNat 55, .ofNat 56, .ofNat 57],
  .str [.chan (some 4129), .chan (some 4130)],
  .str [.int .u8 (.ofNat 49), .int .u8 (.ofNat 48), .int .u8 (.ofNat 46), .int .u8 (.ofNat 48), .int .u8 (.ofNat 46), .int .u8 (.ofNat 48), .int .u8 (.ofNat 46), .chan (some 4129), .chan (some 4130)],
  .str [.int .u8 (.ofNat 49), .int .u8 (.ofNat 48), .int .u8 (.ofNat 46), .int .u8 (.ofNat 48), .int .u8 (.ofNat 46), .int .u8 (.ofNat 48), .int .u8 (.ofNat 46), .chan (some 4129), .chan (some 4130), .int .u8 (.ofNat 32), .int .u8 (.ofNat 104), .int .u8 (.ofNat 10)],
  .str [.int .u8 (.ofNat 49), .int .u8 (.ofNat 48), .int .u8 (.ofNat 46), .int .u8 (.ofNat 48), .int .u8 (.ofNat 46), .int .u8 (.ofNat 48), .int .u8 (.ofNat 46), .chan (some 4129), .chan (some 4130), .int .u8 (.ofNat 32), .int .u8 (.ofNat 104)],
  .ent 34 (.chan (some 4110)) (.int .u8 (.ofNat 0)),
  .ent 34 (.chan (some 4112)) (.int .u8 (.ofNat 0)),
  .ent 34 (.chan (some 4116)) (.int .u8 (.ofNat 0)),
  .ent 34 (.chan (some 4129)) (.int .u8 (.ofNat 0)),
  .ent 34 (.chan (some 4130)) (.int .u8 (.ofNat 0)),
  .str [.int .u8 (.ofNat 48), .int .u8 (.ofNat 46), .int .u8 (.ofNat 48), .int .u8 (.ofNat 46), .chan (some 4129), .chan (some 4130)],
  .str [.int .u8 (.ofNat 48), .int .u8 (.ofNat 46), .chan (some 4129), .chan (some 4130)],
  .ent 1 (.chan (some 4129)) (.int .u8 (.ofNat 48)),
  .ent 39 (.chan (some 4142)) (.int .u8 (.ofNat 0)),
  .ent 1 (.chan (some 4130)) (.int .u8 (.ofNat 48)),
  .ent 2 (.chan (some 4143)) (.int .u64 (.ofNat 10)),
  .ent 39 (.chan (some 4144)) (.int .u8 (.ofNat 0)),
  .ent 0 (.chan (some 4145)) (.chan (some 4146)),
  .ent 36 (.chan (some 4147)) (.int .u8 (.ofNat 0)),
  .str [.int .u8 (.ofNat 10), .int .u8 (.ofNat 0), .int .u8 (.ofNat 0), .chan (some 4148)],
  .str [.int .u8 (.ofNat 0), .int .u8 (.ofNat 0), .int .u8 (.ofNat 0), .int .u8 (.ofNat 0), .int .u8 (.ofNat 0), .int .u8 (.ofNat 0), .int .u8 (.ofNat 0), .int .u8 (.ofNat 0), .int .u8 (.ofNat 0), .int .u8 (.ofNat 0), .int .u8 (.ofNat 255), .int .u8 (.ofNat 255), .int .u8 (.ofNat 10), .int .u8 (.ofNat 0), .int .u8 (.ofNat 0), .chan (some 4148)],
  .crc [.int .u8 (.ofNat 1), .int .u8 (.ofNat 3), .int .u8 (.ofNat 0), .int .u8 (.ofNat 49), .int .u8 (.ofNat 47), .int .u8 (.ofNat 104), .int .u8 (.ofNat 0), .int .u8 (.ofNat 0), .int .u8 (.ofNat 0), .int .u8 (.ofNat 0), .int .u8 (.ofNat 0), .int .u8 (.ofNat 0), .int .u8 (.ofNat 0), .int .u8 (.ofNat 0), .int .u8 (.ofNat 0), .int .u8 (.ofNat 0), .int .u8 (.ofNat 0), .int .u8 (.ofNat 0), .int .u8 (.ofNat 0), .int .u8 (.ofNat 0), .int .u8 (.ofNat 0), .int .u8 (.ofNat 0), .int .u8 (.ofNat 88), .int .u8 (.ofNat 2), .int .u8 (.ofNat 0), .int .u8 (.ofNat 0), .int .u8 (.ofNat 0), .int .u8 (.ofNat 0), .int .u8 (.ofNat 0), .int .u8 (.ofNat 0), .int .u8 (.ofNat 88), .int .u8 (.ofNat 2), .int .u8 (.ofNat 0), .int .u8 (.ofNat 0), .int .u8 (.ofNat 0), .int .u8 (.ofNat 0), .int .u8 (.ofNat 0), .int .u8 (.ofNat 0), .int .u8 (.ofNat 0), .int .u8 (.ofNat 1), .int .u8 (.ofNat 4), .int .u8 (.ofNat 0), .int .u8 (.ofNat 10), .int .u8 (.ofNat 0), .int .u8 (.ofNat 0), .chan (some 4148), .int .u8 (.ofNat 1), .int .u8 (.ofNat 10), .int .u8 (.ofNat 0), .int .u8 (.ofNat 47), .int .u8 (.ofNat 101), .int .u8 (.ofNat 116), .int .u8 (.ofNat 99), .int .u8 (.ofNat 47), .int .u8 (.ofNat 104), .int .u8 (.ofNat 111), .int .u8 (.ofNat 115), .int .u8 (.ofNat 116), .int .u8 (.ofNat 115), .int .u8 (.ofNat 2), .int .u8 (.ofNat 0), .int .u8 (.ofNat 0), .int .u8 (.ofNat 0), .int .u8 (.ofNat 0), .int .u8 (.ofNat 0), .int .u8 (.ofNat 0), .int .u8 (.ofNat 0)],
  .ent 39 (.chan (some 4151)) (.int .u8 (.ofNat 0)),
  .ent 9 (.chan (some 4152)) (.int .i64 (.ofNat 0)),
  .ent 36 (.chan (some 4153)) (.int .u8 (.ofNat 0)),
  .ent 9 (.chan (some 4152)) (.int .i64 (.ofNat 8)),
  .ent 36 (.chan (some 4155)) (.int .u8 (.ofNat 0)),
  .ent 9 (.chan (some 4152)) (.int .i64 (.ofNat 16)),
  .ent 36 (.chan (some 4157)) (.int .u8 (.ofNat 0)),
  .ent 9 (.chan (some 4152)) (.int .i64 (.ofNat 24)),
  .ent 36 (.chan (some 4159)) (.int .u8 (.ofNat 0)),
  .str [.chan (some 4116)],
  .str [.chan (some 4148)]]
noncomputable def tabS : List NInfo := [⟨none, none, []⟩,
  ⟨none, none, []⟩,
  ⟨none, none, []⟩,
  ⟨none, none, []⟩,
  ⟨none, none, [⟨34, .chan (some 4100), .int .u8 (.ofNat 0), .chan (some 4106)⟩, ⟨1, .chan (some 4100), .int .u8 (.ofNat 48), .chan (some 4110)⟩]⟩,
  ⟨none, none, [⟨34, .chan (some 4101), .int .u8 (.ofNat 0), .chan (some 4107)⟩, ⟨1, .chan (some 4101), .int .u8 (.ofNat 48), .chan (some 4112)⟩]⟩,
  ⟨none, some [.chan (some 4100), .chan (some 4101)], []⟩,
  ⟨none, some [.int .u8 (.ofNat 49), .int .u8 (.ofNat 48), .int .u8 (.ofNat 46), .int .u8 (.ofNat 48), .int .u8 (.ofNat 46), .int .u8 (.ofNat 48), .int .u8 (.ofNat 46), .chan (some 4100), .chan (some 4101)], []⟩,
  ⟨none, some [.int .u8 (.ofNat 49), .int .u8 (.ofNat 48), .int .u8 (.ofNat 46), .int .u8 (.ofNat 48), .int .u8 (.ofNat 46), .int .u8 (.ofNat 48), .int .u8 (.ofNat 46), .chan (some 4100), .chan (some 4101), .int .u8 (.ofNat 32), .int .u8 (.ofNat 104), .int .u8 (.ofNat 10)], []⟩,
  ⟨none, some [.int .u8 (.ofNat 49), .int .u8 (.ofNat 48), .int .u8 (.ofNat 46), .int .u8 (.ofNat 48), .int .u8 (.ofNat 46), .int .u8 (.ofNat 48), .int .u8 (.ofNat 46), .chan (some 4100), .chan (some 4101), .int .u8 (.ofNat 32), .int .u8 (.ofNat 104)], []⟩,
  ⟨none, none, []⟩,
  ⟨none, none, []⟩,
  ⟨none, some [.int .u8 (.ofNat 48), .int .u8 (.ofNat 46), .int .u8 (.ofNat 48), .int .u8 (.ofNat 46), .chan (some 4100), .chan (some 4101)], []⟩,
  ⟨none, some [.int .u8 (.ofNat 48), .int .u8 (.ofNat 46), .chan (some 4100), .chan (some 4101)], []⟩,
  ⟨none, none, [⟨39, .chan (some 4110), .int .u8 (.ofNat 0), .chan (some 4111)⟩, ⟨34, .chan (some 4110), .int .u8 (.ofNat 0), .chan (some 4135)⟩]⟩,
  ⟨none, none, [⟨2, .chan (some 4111), .int .u64 (.ofNat 10), .chan (some 4113)⟩]⟩,
  ⟨none, none, [⟨39, .chan (some 4112), .int .u8 (.ofNat 0), .chan (some 4114)⟩, ⟨34, .chan (some 4112), .int .u8 (.ofNat 0), .chan (some 4136)⟩]⟩,
  ⟨none, none, [⟨0, .chan (some 4113), .chan (some 4114), .chan (some 4115)⟩]⟩,
  ⟨none, none, []⟩,
  ⟨none, none, [⟨36, .chan (some 4115), .int .u8 (.ofNat 0), .chan (some 4116)⟩]⟩,
  ⟨none, none, [⟨34, .chan (some 4116), .int .u8 (.ofNat 0), .chan (some 4137)⟩]⟩,
  ⟨none, some [.int .u8 (.ofNat 10), .int .u8 (.ofNat 0), .int .u8 (.ofNat 0), .chan (some 4116)], []⟩,
  ⟨none, some [.int .u8 (.ofNat 0), .int .u8 (.ofNat 0), .int .u8 (.ofNat 0), .int .u8 (.ofNat 0), .int .u8 (.ofNat 0), .int .u8 (.ofNat 0), .int .u8 (.ofNat 0), .int .u8 (.ofNat 0), .int .u8 (.ofNat 0), .int .u8 (.ofNat 0), .int .u8 (.ofNat 255), .int .u8 (.ofNat 255), .int .u8 (.ofNat 10), .int .u8 (.ofNat 0), .int .u8 (.ofNat 0), .chan (some 4116)], []⟩,
  ⟨some (.u32, (.ofNat 0), (.ofNat 4294967295)), none, [⟨39, .chan (some 4119), .int .u8 (.ofNat 0), .chan (some 4120)⟩]⟩,
  ⟨some (.u64, (.ofNat 0), (.ofNat 18446744073709551615)), none, [⟨9, .chan (some 4120), .int .i64 (.ofNat 0), .chan (some 4121)⟩, ⟨9, .chan (some 4120), .int .i64 (.ofNat 8), .chan (some 4123)⟩, ⟨9, .chan (some 4120), .int .i64 (.ofNat 16), .chan (some 4125)⟩, ⟨9, .chan (some 4120), .int .i64 (.ofNat 24), .chan (some 4127)⟩]⟩,
  ⟨some (.u64, (.ofNat 0), (.ofNat 18446744073709551615)), none, [⟨36, .chan (some 4121), .int .u8 (.ofNat 0), .chan (some 4122)⟩]⟩,
  ⟨some (.u8, (.ofNat 0), (.ofNat 255)), none, []⟩,
  ⟨some (.u64, (.ofNat 0), (.ofNat 18446744073709551615)), none, [⟨36, .chan (some 4123), .int .u8 (.ofNat 0), .chan (some 4124)⟩]⟩,
  ⟨some (.u8, (.ofNat 0), (.ofNat 255)), none, []⟩,
  ⟨some (.u64, (.ofNat 0), (.ofNat 18446744073709551615)), none, [⟨36, .chan (some 4125), .int .u8 (.ofNat 0), .chan (some 4126)⟩]⟩,
  ⟨some (.u8, (.ofNat 0), (.ofNat 255)), none, []⟩,
  ⟨some (.u64, (.ofNat 0), (.ofNat 18446744073709551615)), none, [⟨36, .chan (some 4127), .int .u8 (.ofNat 0), .chan (some 4128)⟩]⟩,
  ⟨some (.u8, (.ofNat 0), (.ofNat 255)), none, []⟩,
  ⟨none, none, [⟨34, .chan (some 4129), .int .u8 (.ofNat 0), .chan (some 4138)⟩, ⟨1, .chan (some 4129), .int .u8 (.ofNat 48), .chan (some 4142)⟩]⟩,
  ⟨none, none, [⟨34, .chan (some 4130), .int .u8 (.ofNat 0), .chan (some 4139)⟩, ⟨1, .chan (some 4130), .int .u8 (.ofNat 48), .chan (some 4144)⟩]⟩,
  ⟨none, some [.chan (some 4129), .chan (some 4130)], []⟩,
  ⟨none, some [.int .u8 (.ofNat 49), .int .u8 (.ofNat 48), .int .u8 (.ofNat 46), .int .u8 (.ofNat 48), .int .u8 (.ofNat 46), .int .u8 (.ofNat 48), .int .u8 (.ofNat 46), .chan (some 4129), .chan (some 4130)], []⟩,
  ⟨none, some [.int .u8 (.ofNat 49), .int .u8 (.ofNat 48), .int .u8 (.ofNat 46), .int .u8 (.ofNat 48), .int .u8 (.ofNat 46), .int .u8 (.ofNat 48), .int .u8 (.ofNat 46), .chan (some 4129), .chan (some 4130), .int .u8 (.ofNat 32), .int .u8 (.ofNat 104), .int .u8 (.ofNat 10)], []⟩,
  ⟨none, some [.int .u8 (.ofNat 49), .int .u8 (.ofNat 48), .int .u8 (.ofNat 46), .int .u8 (.ofNat 48), .int .u8 (.ofNat 46), .int .u8 (.ofNat 48), .int .u8 (.ofNat 46), .chan (some 4129), .chan (some 4130), .int .u8 (.ofNat 32), .int .u8 (.ofNat 104)], []⟩,
  ⟨none, none, []⟩,
  ⟨none, none, []⟩,
  ⟨none, none, []⟩,
  ⟨none, none, []⟩,
  ⟨none, none, []⟩,
  ⟨none, some [.int .u8 (.ofNat 48), .int .u8 (.ofNat 46), .int .u8 (.ofNat 48), .int .u8 (.ofNat 46), .chan (some 4129), .chan (some 4130)], []⟩,
  ⟨none, some [.int .u8 (.ofNat 48), .int .u8 (.ofNat 46), .chan (some 4129), .chan (some 4130)], []⟩,
  ⟨none, none, [⟨39, .chan (some 4142), .int .u8 (.ofNat 0), .chan (some 4143)⟩]⟩,
  ⟨none, none, [⟨2, .chan (some 4143), .int .u64 (.ofNat 10), .chan (some 4145)⟩]⟩,
  ⟨none, none, [⟨39, .chan (some 4144), .int .u8 (.ofNat 0), .chan (some 4146)⟩]⟩,
  ⟨none, none, [⟨0, .chan (some 4145), .chan (some 4146), .chan (some 4147)⟩]⟩,
  ⟨none, none, []⟩,
  ⟨none, none, [⟨36, .chan (some 4147), .int .u8 (.ofNat 0), .chan (some 4148)⟩]⟩,
  ⟨none, none, []⟩,
  ⟨none, some [.int .u8 (.ofNat 10), .int .u8 (.ofNat 0), .int .u8 (.ofNat 0), .chan (some 4148)], []⟩,
  ⟨none, some [.int .u8 (.ofNat 0), .int .u8 (.ofNat 0), .int .u8 (.ofNat 0), .int .u8 (.ofNat 0), .int .u8 (.ofNat 0), .int .u8 (.ofNat 0), .int .u8 (.ofNat 0), .int .u8 (.ofNat 0), .int .u8 (.ofNat 0), .int .u8 (.ofNat 0), .int .u8 (.ofNat 255), .int .u8 (.ofNat 255), .int .u8 (.ofNat 10), .int .u8 (.ofNat 0), .int .u8 (.ofNat 0), .chan (some 4148)], []⟩,
  ⟨some (.u32, (.ofNat 0), (.ofNat 4294967295)), none, [⟨39, .chan (some 4151), .int .u8 (.ofNat 0), .chan (some 4152)⟩]⟩,
  ⟨some (.u64, (.ofNat 0), (.ofNat 18446744073709551615)), none, [⟨9, .chan (some 4152), .int .i64 (.ofNat 0), .chan (some 4153)⟩, ⟨9, .chan (some 4152), .int .i64 (.ofNat 8), .chan (some 4155)⟩, ⟨9, .chan (some 4152), .int .i64 (.ofNat 16), .chan (some 4157)⟩, ⟨9, .chan (some 4152), .int .i64 (.ofNat 24), .chan (some 4159)⟩]⟩,
  ⟨some (.u64, (.ofNat 0), (.ofNat 18446744073709551615)), none, [⟨36, .chan (some 4153), .int .u8 (.ofNat 0), .chan (some 4154)⟩]⟩,
  ⟨some (.u8, (.ofNat 0), (.ofNat 255)), none, []⟩,
  ⟨some (.u64, (.ofNat 0), (.ofNat 18446744073709551615)), none, [⟨36, .chan (some 4155), .int .u8 (.ofNat 0), .chan (some 4156)⟩]⟩,
  ⟨some (.u8, (.ofNat 0), (.ofNat 255)), none, []⟩,
  ⟨some (.u64, (.ofNat 0), (.ofNat 18446744073709551615)), none, [⟨36, .chan (some 4157), .int .u8 (.ofNat 0), .chan (some 4158)⟩]⟩,
  ⟨some (.u8, (.ofNat 0), (.ofNat 255)), none, []⟩,
  ⟨some (.u64, (.ofNat 0), (.ofNat 18446744073709551615)), none, [⟨36, .chan (some 4159), .int .u8 (.ofNat 0), .chan (some 4160)⟩]⟩,
  ⟨some (.u8, (.ofNat 0), (.ofNat 255)), none, []⟩,
  ⟨none, some [.chan (some 4116)], []⟩,
  ⟨none, some [.chan (some 4148)], []⟩]
noncomputable def tab0 : List NInfo := [⟨none, none, []⟩,
  ⟨none, none, []⟩,
  ⟨some (.i64, (.ofNat 10), (.ofNat 99)), none, [⟨36, .chan (some 4098), .int .u8 (.ofNat 0), .chan (some 4116)⟩]⟩,
  ⟨none, none, []⟩,
  ⟨some (.u8, (.ofNat 49), (.ofNat 57)), none, []⟩,
  ⟨some (.u8, (.ofNat 48), (.ofNat 57)), none, []⟩,
  ⟨none, none, []⟩,
  ⟨none, none, []⟩,
  ⟨none, none, []⟩,
  ⟨none, none, []⟩,
  ⟨some (.i32, (.ofNat 49), (.ofNat 57)), none, []⟩,
  ⟨some (.i32, (.ofNat 48), (.ofNat 57)), none, []⟩,
  ⟨none, none, []⟩,
  ⟨none, none, []⟩,
  ⟨some (.u8, (.ofNat 1), (.ofNat 9)), none, []⟩,
  ⟨some (.u64, (.ofNat 1), (.ofNat 9)), none, [⟨0, .int .u64 (.ofNat 0), .chan (some 4111), .chan (some 4111)⟩]⟩,
  ⟨some (.u8, (.ofNat 0), (.ofNat 9)), none, []⟩,
  ⟨some (.u64, (.ofNat 10), (.ofNat 90)), none, []⟩,
  ⟨some (.u64, (.ofNat 0), (.ofNat 9)), none, []⟩,
  ⟨some (.u64, (.ofNat 10), (.ofNat 99)), none, [⟨13, .chan (some 4115), .chan (some 4113), .bool false⟩, ⟨35, .chan (some 4115), .int .u8 (.ofNat 0), .chan (some 4098)⟩]⟩,
  ⟨some (.u8, (.ofNat 10), (.ofNat 99)), none, []⟩,
  ⟨none, none, []⟩,
  ⟨none, none, []⟩,
  ⟨none, none, []⟩,
  ⟨none, none, []⟩,
  ⟨none, none, []⟩,
  ⟨none, none, []⟩,
  ⟨none, none, []⟩,
  ⟨none, none, []⟩,
  ⟨none, none, []⟩,
  ⟨none, none, []⟩,
  ⟨none, none, []⟩,
  ⟨none, none, []⟩,
  ⟨none, none, []⟩,
  ⟨none, none, []⟩,
  ⟨none, none, []⟩,
  ⟨none, none, []⟩,
  ⟨none, none, []⟩,
  ⟨none, none, []⟩,
  ⟨some (.i32, (.ofNat 1), (.ofNat 9)), none, []⟩,
  ⟨some (.i32, (.ofNat 0), (.ofNat 9)), none, []⟩,
  ⟨some (.i32, (.ofNat 10), (.ofNat 99)), none, []⟩,
  ⟨none, none, []⟩,
  ⟨none, none, []⟩,
  ⟨none, none, []⟩,
  ⟨none, none, []⟩,
  ⟨none, none, []⟩,
  ⟨none, none, []⟩,
  ⟨none, none, []⟩,
  ⟨none, none, []⟩,
  ⟨none, none, []⟩,
  ⟨none, none, []⟩,
  ⟨none, none, []⟩,
  ⟨none, none, []⟩,
  ⟨none, none, []⟩,
  ⟨none, none, []⟩,
  ⟨none, none, []⟩,
  ⟨none, none, []⟩,
  ⟨none, none, []⟩,
  ⟨none, none, []⟩,
  ⟨none, none, []⟩,
  ⟨none, none, []⟩,
  ⟨none, none, []⟩,
  ⟨none, none, []⟩,
  ⟨none, none, []⟩,
  ⟨none, none, []⟩,
  ⟨none, none, []⟩]
noncomputable def tab1 : List NInfo := [⟨none, none, []⟩,
  ⟨none, none, []⟩,
  ⟨none, none, []⟩,
  ⟨some (.i64, (.ofNat 10), (.ofNat 99)), none, [⟨36, .chan (some 4099), .int .u8 (.ofNat 0), .chan (some 4148)⟩]⟩,
  ⟨none, none, []⟩,
  ⟨none, none, []⟩,
  ⟨none, none, []⟩,
  ⟨none, none, []⟩,
  ⟨none, none, []⟩,
  ⟨none, none, []⟩,
  ⟨none, none, []⟩,
  ⟨none, none, []⟩,
  ⟨none, none, []⟩,
  ⟨none, none, []⟩,
  ⟨none, none, []⟩,
  ⟨none, none, []⟩,
  ⟨none, none, []⟩,
  ⟨none, none, []⟩,
  ⟨none, none, []⟩,
  ⟨none, none, []⟩,
  ⟨none, none, []⟩,
  ⟨none, none, []⟩,
  ⟨none, none, []⟩,
  ⟨none, none, []⟩,
  ⟨none, none, []⟩,
  ⟨none, none, []⟩,
  ⟨none, none, []⟩,
  ⟨none, none, []⟩,
  ⟨none, none, []⟩,
  ⟨none, none, []⟩,
  ⟨none, none, []⟩,
  ⟨none, none, []⟩,
  ⟨none, none, []⟩,
  ⟨some (.u8, (.ofNat 49), (.ofNat 57)), none, []⟩,
  ⟨some (.u8, (.ofNat 48), (.ofNat 57)), none, []⟩,
  ⟨none, none, []⟩,
  ⟨none, none, []⟩,
  ⟨none, none, []⟩,
  ⟨none, none, []⟩,
  ⟨none, none, []⟩,
  ⟨none, none, []⟩,
  ⟨none, none, []⟩,
  ⟨some (.i32, (.ofNat 49), (.ofNat 57)), none, []⟩,
  ⟨some (.i32, (.ofNat 48), (.ofNat 57)), none, []⟩,
  ⟨none, none, []⟩,
  ⟨none, none, []⟩,
  ⟨some (.u8, (.ofNat 1), (.ofNat 9)), none, []⟩,
  ⟨some (.u64, (.ofNat 1), (.ofNat 9)), none, [⟨0, .int .u64 (.ofNat 0), .chan (some 4143), .chan (some 4143)⟩]⟩,
  ⟨some (.u8, (.ofNat 0), (.ofNat 9)), none, []⟩,
  ⟨some (.u64, (.ofNat 10), (.ofNat 90)), none, []⟩,
  ⟨some (.u64, (.ofNat 0), (.ofNat 9)), none, []⟩,
  ⟨some (.u64, (.ofNat 10), (.ofNat 99)), none, [⟨13, .chan (some 4147), .chan (some 4145), .bool false⟩, ⟨35, .chan (some 4147), .int .u8 (.ofNat 0), .chan (some 4099)⟩]⟩,
  ⟨some (.u8, (.ofNat 10), (.ofNat 99)), none, []⟩,
  ⟨none, none, []⟩,
  ⟨none, none, []⟩,
  ⟨none, none, []⟩,
  ⟨none, none, []⟩,
  ⟨none, none, []⟩,
  ⟨none, none, []⟩,
  ⟨none, none, []⟩,
  ⟨none, none, []⟩,
  ⟨none, none, []⟩,
  ⟨none, none, []⟩,
  ⟨none, none, []⟩,
  ⟨none, none, []⟩,
  ⟨none, none, []⟩,
  ⟨none, none, []⟩]
noncomputable def tab : List NInfo := (unionT tabS (unionT tab0 tab1))
noncomputable def crcs : List (List Value × Value) := [([.int .u8 (.ofNat 1), .int .u8 (.ofNat 3), .int .u8 (.ofNat 0), .int .u8 (.ofNat 49), .int .u8 (.ofNat 47), .int .u8 (.ofNat 104), .int .u8 (.ofNat 0), .int .u8 (.ofNat 0), .int .u8 (.ofNat 0), .int .u8 (.ofNat 0), .int .u8 (.ofNat 0), .int .u8 (.ofNat 0), .int .u8 (.ofNat 0), .int .u8 (.ofNat 0), .int .u8 (.ofNat 0), .int .u8 (.ofNat 0), .int .u8 (.ofNat 0), .int .u8 (.ofNat 0), .int .u8 (.ofNat 0), .int .u8 (.ofNat 0), .int .u8 (.ofNat 0), .int .u8 (.ofNat 0), .int .u8 (.ofNat 88), .int .u8 (.ofNat 2), .int .u8 (.ofNat 0), .int .u8 (.ofNat 0), .int .u8 (.ofNat 0), .int .u8 (.ofNat 0), .int .u8 (.ofNat 0), .int .u8 (.ofNat 0), .int .u8 (.ofNat 88), .int .u8 (.ofNat 2), .int .u8 (.ofNat 0), .int .u8 (.ofNat 0), .int .u8 (.ofNat 0), .int .u8 (.ofNat 0), .int .u8 (.ofNat 0), .int .u8 (.ofNat 0), .int .u8 (.ofNat 0), .int .u8 (.ofNat 1), .int .u8 (.ofNat 4), .int .u8 (.ofNat 0), .int .u8 (.ofNat 10), .int .u8 (.ofNat 0), .int .u8 (.ofNat 0), .chan (some 4116), .int .u8 (.ofNat 1), .int .u8 (.ofNat 10), .int .u8 (.ofNat 0), .int .u8 (.ofNat 47), .int .u8 (.ofNat 101), .int .u8 (.ofNat 116), .int .u8 (.ofNat 99), .int .u8 (.ofNat 47), .int .u8 (.ofNat 104), .int .u8 (.ofNat 111), .int .u8 (.ofNat 115), .int .u8 (.ofNat 116), .int .u8 (.ofNat 115), .int .u8 (.ofNat 1), .int .u8 (.ofNat 0), .int .u8 (.ofNat 0), .int .u8 (.ofNat 0), .int .u8 (.ofNat 0), .int .u8 (.ofNat 0), .int .u8 (.ofNat 0), .int .u8 (.ofNat 0)], .chan (some 4119)),
  ([.int .u8 (.ofNat 1), .int .u8 (.ofNat 3), .int .u8 (.ofNat 0), .int .u8 (.ofNat 49), .int .u8 (.ofNat 47), .int .u8 (.ofNat 104), .int .u8 (.ofNat 0), .int .u8 (.ofNat 0), .int .u8 (.ofNat 0), .int .u8 (.ofNat 0), .int .u8 (.ofNat 0), .int .u8 (.ofNat 0), .int .u8 (.ofNat 0), .int .u8 (.ofNat 0), .int .u8 (.ofNat 0), .int .u8 (.ofNat 0), .int .u8 (.ofNat 0), .int .u8 (.ofNat 0), .int .u8 (.ofNat 0), .int .u8 (.ofNat 0), .int .u8 (.ofNat 0), .int .u8 (.ofNat 0), .int .u8 (.ofNat 88), .int .u8 (.ofNat 2), .int .u8 (.ofNat 0), .int .u8 (.ofNat 0), .int .u8 (.ofNat 0), .int .u8 (.ofNat 0), .int .u8 (.ofNat 0), .int .u8 (.ofNat 0), .int .u8 (.ofNat 88), .int .u8 (.ofNat 2), .int .u8 (.ofNat 0), .int .u8 (.ofNat 0), .int .u8 (.ofNat 0), .int .u8 (.ofNat 0), .int .u8 (.ofNat 0), .int .u8 (.ofNat 0), .int .u8 (.ofNat 0), .int .u8 (.ofNat 1), .int .u8 (.ofNat 4), .int .u8 (.ofNat 0), .int .u8 (.ofNat 10), .int .u8 (.ofNat 0), .int .u8 (.ofNat 0), .chan (some 4148), .int .u8 (.ofNat 1), .int .u8 (.ofNat 10), .int .u8 (.ofNat 0), .int .u8 (.ofNat 47), .int .u8 (.ofNat 101), .int .u8 (.ofNat 116), .int .u8 (.ofNat 99), .int .u8 (.ofNat 47), .int .u8 (.ofNat 104), .int .u8 (.ofNat 111), .int .u8 (.ofNat 115), .int .u8 (.ofNat 116), .int .u8 (.ofNat 115), .int .u8 (.ofNat 2), .int .u8 (.ofNat 0), .int .u8 (.ofNat 0), .int .u8 (.ofNat 0), .int .u8 (.ofNat 0), .int .u8 (.ofNat 0), .int .u8 (.ofNat 0), .int .u8 (.ofNat 0)], .chan (some 4151))]
noncomputable abbrev base (a0 : Int) (a1 : Int) (x0 : Nat) (x1 : Nat) : List Value := [.int .i64 a0, .int .i64 a1, .int .i64 (.ofNat x0), .int .i64 (.ofNat x1)]
noncomputable abbrev G (a0 : Int) (a1 : Int) (x0 : Nat) (x1 : Nat) : Sym := symL (mkVals ds (base a0 a1 x0 x1))
set_option maxRecDepth 100000 in
theorem refs_ok : refsAll ds 4 = true := by kernel_rfl
set_option maxRecDepth 100000 in
theorem nam_ok : namDs ds = true := by kernel_rfl
set_option maxRecDepth 100000 in
theorem len_ok : Nat.ble tab.length 4096 = true := by kernel_rfl
set_option maxRecDepth 100000 in
theorem crcs_ok : crcsB ds 4 crcs = true := by kernel_rfl
set_option maxRecDepth 100000 in
theorem sym_ok : symTab (ksOf ds [none, none, some .i64, some .i64]) ds 4 tabS 0 = true := by kernel_rfl
set_option maxRecDepth 100000 in
theorem tab0_all (a0 : Int) (a1 : Int) (x1 : Nat) : allB 90 (fun i0 => tabB (G a0 a1 (10 + i0) x1) tab0 0) = true := by kernel_rfl
theorem tab0_ok (a0 : Int) (a1 : Int) (x0 : Nat) (x1 : Nat) (h0 : 10 ≤ x0 ∧ x0 < 100) (h1 : 10 ≤ x1 ∧ x1 < 100) : TabOk (G a0 a1 x0 x1) tab0 := by
  have h := (allB_spec (tab0_all a0 a1 x1) (x0 - 10) (by omega))
  rw [show 10 + (x0 - 10) = x0 by omega] at h
  exact tabB_part h
set_option maxRecDepth 100000 in
theorem tab1_all (a0 : Int) (a1 : Int) (x0 : Nat) : allB 90 (fun i1 => tabB (G a0 a1 x0 (10 + i1)) tab1 0) = true := by kernel_rfl
theorem tab1_ok (a0 : Int) (a1 : Int) (x0 : Nat) (x1 : Nat) (h0 : 10 ≤ x0 ∧ x0 < 100) (h1 : 10 ≤ x1 ∧ x1 < 100) : TabOk (G a0 a1 x0 x1) tab1 := by
  have h := (allB_spec (tab1_all a0 a1 x0) (x1 - 10) (by omega))
  rw [show 10 + (x1 - 10) = x1 by omega] at h
  exact tabB_part h
theorem kinv (a0 : Int) (a1 : Int) (x0 : Nat) (x1 : Nat) (h0 : 10 ≤ x0 ∧ x0 < 100) (h1 : 10 ≤ x1 ∧ x1 < 100) : KInv (symL (base a0 a1 x0 x1)) [none, none, some .i64, some .i64] := by
  intro i k hi
  match i, hi with
  | 0, hi => cases hi
  | 1, hi => cases hi
  | 2, hi => cases hi; exact ⟨.ofNat x0, rfl, by rw [inK_iff]; show (-9223372036854775808 : Int) ≤ (x0 : Int) ∧ (x0 : Int) ≤ 9223372036854775807; omega⟩
  | 3, hi => cases hi; exact ⟨.ofNat x1, rfl, by rw [inK_iff]; show (-9223372036854775808 : Int) ≤ (x1 : Int) ∧ (x1 : Int) ≤ 9223372036854775807; omega⟩
  | n + 4, hi => cases hi
theorem named_ok (a0 : Int) (a1 : Int) (x0 : Nat) (x1 : Nat) (i : Nat) : named (G a0 a1 x0 x1 i) := symL_named' (mkVals_named (by intro v hv; simp only [base, List.mem_cons, List.not_mem_nil, or_false] at hv; rcases hv with rfl | rfl | rfl | rfl <;> trivial) nam_ok) i
theorem names_ok (a0 : Int) (a1 : Int) (x0 : Nat) (x1 : Nat) (h0 : 10 ≤ x0 ∧ x0 < 100) (h1 : 10 ≤ x1 ∧ x1 < 100) : NamesOk (G a0 a1 x0 x1) (Names.ofL tab) := namesOk_parts (named_ok a0 a1 x0 x1) len_ok (TabOk.union (symTab_part (l := base a0 a1 x0 x1) rfl (kinv a0 a1 x0 x1 h0 h1) refs_ok sym_ok) (TabOk.union (tab0_ok a0 a1 x0 x1 h0 h1 ) (tab1_ok a0 a1 x0 x1 h0 h1 )))
theorem crc_ok (a0 : Int) (a1 : Int) (x0 : Nat) (x1 : Nat) : CrcOk (G a0 a1 x0 x1) crcs := crcsB_ok (l := base a0 a1 x0 x1) refs_ok crcs_ok
theorem gb0 (a0 : Int) (a1 : Int) (x0 : Nat) (x1 : Nat) : G a0 a1 x0 x1 (4096 - 4096) = .int .i64 a0 := by
  show symL (mkVals ds (base a0 a1 x0 x1)) 0 = _
  rw [symL_low ds (base a0 a1 x0 x1) 0 (by simp)]
  rfl
theorem gb1 (a0 : Int) (a1 : Int) (x0 : Nat) (x1 : Nat) : G a0 a1 x0 x1 (4097 - 4096) = .int .i64 a1 := by
  show symL (mkVals ds (base a0 a1 x0 x1)) 1 = _
  rw [symL_low ds (base a0 a1 x0 x1) 1 (by simp)]
  rfl
theorem gb2 (a0 : Int) (a1 : Int) (x0 : Nat) (x1 : Nat) : G a0 a1 x0 x1 (4098 - 4096) = .int .i64 (.ofNat x0) := by
  show symL (mkVals ds (base a0 a1 x0 x1)) 2 = _
  rw [symL_low ds (base a0 a1 x0 x1) 2 (by simp)]
  rfl
theorem gb3 (a0 : Int) (a1 : Int) (x0 : Nat) (x1 : Nat) : G a0 a1 x0 x1 (4099 - 4096) = .int .i64 (.ofNat x1) := by
  show symL (mkVals ds (base a0 a1 x0 x1)) 3 = _
  rw [symL_low ds (base a0 a1 x0 x1) 3 (by simp)]
  rfl
noncomputable def pargs0 : List Value := [.chan (some 4098)]
noncomputable def pres0 : Value := .chan (some 4102)
noncomputable def pargs1 : List Value := [.chan (some 4098)]
noncomputable def pres1 : Value := .chan (some 4102)
noncomputable def pargs2 : List Value := [.chan (some 4099)]
noncomputable def pres2 : Value := .chan (some 4131)
noncomputable def pargs3 : List Value := [.chan (some 4099)]
noncomputable def pres3 : Value := .chan (some 4131)
end Go.Proofs.YtpficieiefgbfaaGreatDoor.topfiles.d22
namespace Go.Proofs.YtpficieiefgbfaaGreatDoor.topfiles.d23
open Go Vai
set_option linter.unusedVariables false
set_option linter.unusedSimpArgs false
noncomputable def ds : List NDef := [.idx .u8 (.chan (some 4098)) 10 [.ofNat 49, .ofNat 49, .ofNat 49, .ofNat 49, .ofNat 49, .ofNat 49, .ofNat 49, .ofNat 49, .ofNat 49, .ofNat 49, .ofNat 50, .ofNat 50, .ofNat 50, .ofNat 50, .ofNat 50, .ofNat 50, .ofNat 50, .ofNat 50, .ofNat 50, .ofNat 50, .ofNat 51, .ofNat 51, .ofNat 51, .ofNat 51, .ofNat 51, .ofNat 51, .ofNat 51, .ofNat 51, .ofNat 51, .ofNat 51, .ofNat 52, .ofNat 52, .ofNat 52, .ofNat 52, .ofNat 52, .ofNat 52, .ofNat 52, .ofNat 52, .ofNat 52, .ofNat 52, .ofNat 53, .ofNat 53, .ofNat 53, .ofNat 53, .ofNat 53, .ofNat 53, .ofNat 53, .ofNat 53, .ofNat 53, .ofNat 53, .ofNat 54, .ofNat 54, .ofNat 54, .ofNat 54, .ofNat 54, .ofNat 54, .ofNat 54, .ofNat 54, .ofNat 54, .ofNat 54, .ofNat 55, .ofNat 55, .ofNat 55, .ofNat 55, .ofNat 55, .ofNat 55, .ofNat 55, .ofNat 55, .ofNat 55, .ofNat 55, .ofNat 56, .ofNat 56, .ofNat 56, .ofNat 56, .ofNat 56, .ofNat 56, .ofNat 56, .ofNat 56, .ofNat 56, .ofNat 56, .ofNat 57, .ofNat 57, .ofNat 57, .ofNat 57, .ofNat 57, .ofNat 57, .ofNat 57, .ofNat 57, .ofNat 57, .ofNat 57],
  .idx .u8 (.chan (some 4098)) 10 [.ofNat 48, .ofNat 49, .ofNat 50, .ofNat 51, .ofNat 52, .ofNat 53, .ofNat 54, .ofNat 55, .ofNat 56, .ofNat 57, .ofNat 48, .ofNat 49, .ofNat 50, .ofNat 51, .ofNat 52, .ofNat 53, .ofNat 54, .ofNat 55, .ofNat 56, .ofNat 57, .ofNat 48, .ofNat 49, .ofNat 50, .ofNat 51, .ofNat 52, .ofNat 53, .ofNat 54, .ofNat 55, .ofNat 56, .ofNat 57, .ofNat 48, .ofNat 49, .ofNat 50, .ofNat 51, .ofNat 52, .ofNat 53, .ofNat 54, .ofNat 55, .ofNat 56, .ofNat 57, .ofNat 48, .ofNat 49, .ofNat 50, .ofNat 51, .ofNat 52, .ofNat 53, .ofNat 54, .ofNat 55, .ofNat 56, .ofNat 57, .ofNat 48, .ofNat 49, .ofNat 50, .ofNat 51, .ofNat 52, .ofNat 53, .ofNat 54, .ofNat 55, .ofNat 56, .ofNat 57, .ofNat 48, .ofNat 49, .ofNat 50, .ofNat 51, .ofNat 52, .ofNat 53, .ofNat 54, .ofNat 55, .ofNat 56, .ofNat 57, .ofNat 48, .ofNat 49, .ofNat 50, .ofNat 51, .ofNat 52, .ofNat 53, .ofNat 54, .ofNat 55, .ofNat 56, .ofNat 57, .ofNat 48, .ofNat 49, .ofNat 50, .ofNat 51, .ofNat 52, .ofNat 53, .ofNat 54, .ofNat 55, .ofNat 56, .ofNat 57],
  .str [.chan (some 4100), .chan (some 4101)],
  .str [.int .u8 (.ofNat 49), .int .u8 (.ofNat 48), .int .u8 (.ofNat 46), .int .u8 (.ofNat 48), .int .u8 (.ofNat 46), .int .u8 (.ofNat 48), .int .u8 (.ofNat 46), .chan (some 4100), .chan (some 4101)],
  .str [.int .u8 (.ofNat 49), .int .u8 (.ofNat 48), .int .u8 (.ofNat 46), .int .u8 (.ofNat 48), .int .u8 (.ofNat 46), .int .u8 (.ofNat 48), .int .u8 (.ofNat 46), .chan (some 4100), .chan (some 4101), .int .u8 (.ofNat 32), .int .u8 (.ofNat 104), .int .u8 (.ofNat 10)],
  .str [.int .u8 (.ofNat 49), .int .u8 (.ofNat 48), .int .u8 (.ofNat 46), .int .u8 (.ofNat 48), .int .u8 (.ofNat 46), .int .u8 (.ofNat 48), .int .u8 (.ofNat 46), .chan (some 4100), .chan (some 4101), .int .u8 (.ofNat 32), .int .u8 (.ofNat 104)],
  .ent 34 (.chan (some 4100)) (.int .u8 (.ofNat 0)),
  .ent 34 (.chan (some 4101)) (.int .u8 (.ofNat 0)),
  .str [.int .u8 (.ofNat 48), .int .u8 (.ofNat 46), .int .u8 (.ofNat 48), .int .u8 (.ofNat 46), .chan (some 4100), .chan (some 4101)],
  .str [.int .u8 (.ofNat 48), .int .u8 (.ofNat 46), .chan (some 4100), .chan (some 4101)],
  .ent 1 (.chan (some 4100)) (.int .u8 (.ofNat 48)),
  .ent 39 (.chan (some 4110)) (.int .u8 (.ofNat 0)),
  .ent 1 (.chan (some 4101)) (.int .u8 (.ofNat 48)),
  .ent 2 (.chan (some 4111)) (.int .u64 (.ofNat 10)),
  .ent 39 (.chan (some 4112)) (.int .u8 (.ofNat 0)),
  .ent 0 (.chan (some 4113)) (.chan (some 4114)),
  .ent 36 (.chan (some 4115)) (.int .u8 (.ofNat 0)),
  .str [.int .u8 (.ofNat 10), .int .u8 (.ofNat 0), .int .u8 (.ofNat 0), .chan (some 4116)],
  .str [.int .u8 (.ofNat 0), .int .u8 (.ofNat 0), .int .u8 (.ofNat 0), .int .u8 (.ofNat 0), .int .u8 (.ofNat 0), .int .u8 (.ofNat 0), .int .u8 (.ofNat 0), .int .u8 (.ofNat 0), .int .u8 (.ofNat 0), .int .u8 (.ofNat 0), .int .u8 (.ofNat 255), .int .u8 (.ofNat 255), .int .u8 (.ofNat 10), .int .u8 (.ofNat 0), .int .u8 (.ofNat 0), .chan (some 4116)],
  .crc [.int .u8 (.ofNat 1), .int .u8 (.ofNat 3), .int .u8 (.ofNat 0), .int .u8 (.ofNat 49), .int .u8 (.ofNat 47), .int .u8 (.ofNat 104), .int .u8 (.ofNat 0), .int .u8 (.ofNat 0), .int .u8 (.ofNat 0), .int .u8 (.ofNat 0), .int .u8 (.ofNat 0), .int .u8 (.ofNat 0), .int .u8 (.ofNat 0), .int .u8 (.ofNat 0), .int .u8 (.ofNat 0), .int .u8 (.ofNat 0), .int .u8 (.ofNat 0), .int .u8 (.ofNat 0), .int .u8 (.ofNat 0), .int .u8 (.ofNat 0), .int .u8 (.ofNat 0), .int .u8 (.ofNat 0), .int .u8 (.ofNat 88), .int .u8 (.ofNat 2), .int .u8 (.ofNat 0), .int .u8 (.ofNat 0), .int .u8 (.ofNat 0), .int .u8 (.ofNat 0), .int .u8 (.ofNat 0), .int .u8 (.ofNat 0), .int .u8 (.ofNat 88), .int .u8 (.ofNat 2), .int .u8 (.ofNat 0), .int .u8 (.ofNat 0), .int .u8 (.ofNat 0), .int .u8 (.ofNat 0), .int .u8 (.ofNat 0), .int .u8 (.ofNat 0), .int .u8 (.ofNat 0), .int .u8 (.ofNat 1), .int .u8 (.ofNat 4), .int .u8 (.ofNat 0), .int .u8 (.ofNat 10), .int .u8 (.ofNat 0), .int .u8 (.ofNat 0), .chan (some 4116), .int .u8 (.ofNat 1), .int .u8 (.ofNat 10), .int .u8 (.ofNat 0), .int .u8 (.ofNat 47), .int .u8 (.ofNat 101), .int .u8 (.ofNat 116), .int .u8 (.ofNat 99), .int .u8 (.ofNat 47), .int .u8 (.ofNat 104), .int .u8 (.ofNat 111), .int .u8 (.ofNat 115), .int .u8 (.ofNat 116), .int .u8 (.ofNat 115), .int .u8 (.ofNat 1), .int .u8 (.ofNat 0), .int .u8 (.ofNat 0), .int .u8 (.ofNat 0), .int .u8 (.ofNat 0), .int .u8 (.ofNat 0), .int .u8 (.ofNat 0), .int .u8 (.ofNat 0)],
  .ent 39 (.chan (some 4119)) (.int .u8 (.ofNat 0)),
  .ent 9 (.chan (some 4120)) (.int .i64 (.ofNat 0)),
  .ent 36 (.chan (some 4121)) (.int .u8 (.ofNat 0)),
  .ent 9 (.chan (some 4120)) (.int .i64 (.ofNat 8)),
  .ent 36 (.chan (some 4123)) (.int .u8 (.ofNat 0)),
  .ent 9 (.chan (some 4120)) (.int .i64 (.ofNat 16)),
  .ent 36 (.chan (some 4125)) (.int .u8 (.ofNat 0)),
  .ent 9 (.chan (some 4120)) (.int .i64 (.ofNat 24)),
  .ent 36 (.chan (some 4127)) (.int .u8 (.ofNat 0)),
  .idx .u8 (.chan (some 4099)) 100 [.ofNat 49, .ofNat 49, .ofNat 49, .ofNat 49, .ofNat 49, .ofNat 49, .ofNat 49, .ofNat 49, .ofNat 49, .ofNat 49, .ofNat 49, .ofNat 49, .ofNat 49, .ofNat 49, .ofNat 49, .ofNat 49, .ofNat 49, .ofNat 49, .ofNat 49, .ofNat 49, .ofNat 49, .ofNat 49, .ofNat 49, .ofNat 49, .ofNat 49, .ofNat 49, .ofNat 49, .ofNat 49, .ofNat 49, .ofNat 49, .ofNat 49, .ofNat 49, .ofNat 49, .ofNat 49, .ofNat 49, .ofNat 49, .ofNat 49, .ofNat 49, .ofNat 49, .ofNat 49, .ofNat 49, .ofNat 49, .ofNat 49, .ofNat 49, .ofNat 49, .ofNat 49, .ofNat 49, .ofNat 49, .ofNat 49, .ofNat 49, .ofNat 49, .ofNat 49, .ofNat 49, .ofNat 49, .ofNat 49, .ofNat 49, .ofNat 49, .ofNat 49, .ofNat 49, .ofNat 49, .ofNat 49, .ofNat 49, .ofNat 49, .ofNat 49, .ofNat 49, .ofNat 49, .ofNat 49, .ofNat 49, .ofNat 49, .ofNat 49, .ofNat 49, .ofNat 49, .ofNat 49, .ofNat 49, .ofNat 49, .ofNat 49, .ofNat 49, .ofNat 49, .ofNat 49, .ofNat 49, .ofNat 49, .ofNat 49, .ofNat 49, .ofNat 49, .ofNat 49, .ofNat 49, .ofNat 49, .ofNat 49, .ofNat 49, .ofNat 49, .ofNat 49, .ofNat 49, .ofNat 49, .ofNat 49, .ofNat 49, .ofNat 49, .ofNat 49, .ofNat 49, .ofNat 49, .ofNat 49, .ofNat 50, .ofNat 50, .ofNat 50, .ofNat 50, .ofNat 50, .ofNat 50, .ofNat 50, .ofNat 50, .ofNat 50, .ofNat 50, .ofNat 50, .ofNat 50, .ofNat 50, .ofNat 50, .ofNat 50, .ofNat 50, .ofNat 50, .ofNat 50, .ofNat 50, .ofNat 50, .ofNat 50, .ofNat 50, .ofNat 50, .ofNat 50, .ofNat 50, .ofNat 50, .ofNat 50, .ofNat 50, .ofNat 50, .ofNat 50, .ofNat 50, .ofNat 50, .ofNat 50, .ofNat 50, .ofNat 50, .ofNat 50, .ofNat 50, .ofNat 50, .ofNat 50, .ofNat 50, .ofNat 50, .ofNat 50, .ofNat 50, .ofNat 50, .ofNat 50, .ofNat 50, .ofNat 50, .ofNat 50, .ofNat 50, .ofNat 50],
  .idx .u8 (.chan (some 4099)) 100 [.ofNat 48, .ofNat 48, .ofNat 48, .ofNat 48, .ofNat 48, .ofNat 48, .ofNat 48, .ofNat 48, .ofNat 48, .ofNat 48, .ofNat 49, .ofNat 49, .ofNat 49, .ofNat 49, .ofNat 49, .ofNat 49, .ofNat 49, .ofNat 49, .ofNat 49, .ofNat 49, .ofNat 50, .ofNat 50, .ofNat 50, .ofNat 50, .ofNat 50, .ofNat 50, .ofNat 50, .ofNat 50, .ofNat 50, .ofNat 50, .ofNat 51, .ofNat 51, .ofNat 51, .ofNat 51, .ofNat 51, .ofNat 51, .ofNat 51, .ofNat 51, .ofNat 51, .ofNat 51, .ofNat 52, .ofNat 52, .ofNat 52, .ofNat 52, .ofNat 52, .ofNat 52, .ofNat 52, .ofNat 52, .ofNat 52, .ofNat 52, .ofNat 53, .ofNat 53, .ofNat 53, .ofNat 53, .ofNat 53, .ofNat 53, .ofNat 53, .ofNat 53, .ofNat 53, .ofNat 53, .ofNat 54, .ofNat 54, .ofNat 54, .ofNat 54, .ofNat 54, .ofNat 54, .ofNat 54, .ofNat 54, .ofNat 54, .ofNat 54, .ofNat 55, .ofNat 55, .ofNat 55, .ofNat 55, .ofNat 55, .ofNat 55, .ofNat 55, .ofNat 55, .ofNat 55, .ofNat 55, .ofNat 56, .ofNat 56, .ofNat 56, .ofNat 56, .ofNat 56, .ofNat 56, .ofNat 56, .ofNat 56, .ofNat 56, .ofNat 56, .ofNat 57, .ofNat 57, .ofNat 57, .ofNat 57, .ofNat 57, .ofNat 57, .ofNat 57, .ofNat 57, .ofNat 57, .ofNat 57, .ofNat 48, .ofNat 48, .ofNat 48, .ofNat 48, .ofNat 48, .ofNat 48, .ofNat 48, .ofNat 48, .ofNat 48, .ofNat 48, .ofNat 49, .ofNat 49, .ofNat 49, .ofNat 49, .ofNat 49, .ofNat 49, .ofNat 49, .ofNat 49, .ofNat 49, .ofNat 49, .ofNat 50, .ofNat 50, .ofNat 50, .ofNat 50, .ofNat 50, .ofNat 50, .ofNat 50, .ofNat 50, .ofNat 50, .ofNat 50, .ofNat 51, .ofNat 51, .ofNat 51, .ofNat 51, .ofNat 51, .ofNat 51, .ofNat 51, .ofNat 51, .ofNat 51, .ofNat 51, .ofNat 52, .ofNat 52, .ofNat 52, .ofNat 52, .ofNat 52, .ofNat 52, .ofNat 52, .ofNat 52, .ofNat 52, .ofNat 52],
  .idx .u8 (.chan (some 4099)) 100 [.ofNat 48, .ofNat 49, .ofNat 50, .ofNat 51, .ofNat 52, .ofNat 53, .ofNat 54, .ofNat 55, .ofNat 56, .ofNat 57, .ofNat 48, .ofNat 49, .ofNat 50, .ofNat 51, .ofNat 52, .ofNat 53, .ofNat 54, .ofNat 55, .ofNat 56, .ofNat 57, .ofNat 48, .ofNat 49, .ofNat 50, .ofNat 51, .ofNat 52, .ofNat 53, .ofNat 54, .ofNat 55, .ofNat 56, .ofNat 57, .ofNat 48, .ofNat 49, .ofNat 50, .ofNat 51, .ofNat 52, .ofNat 53, .ofNat 54, .ofNat 55, .ofNat 56, .ofNat 57, .ofNat 48, .ofNat 49, .ofNat 50, .ofNat 51, .ofNat 52, .ofNat 53, .ofNat 54, .ofNat 55, .ofNat 56, .ofNat 57, .ofNat 48, .ofNat 49, .ofNat 50, .ofNat 51, .ofNat 52, .ofNat 53, .ofNat 54, .ofNat 55, .ofNat 56, .ofNat 57, .ofNat 48, .ofNat 49, .ofNat 50, .ofNat 51, .ofNat 52, .ofNat 53, .ofNat 54, .ofNat 55, .ofNat 56, .ofNat 57, .ofNat 48, .ofNat 49, .ofNat 50, .ofNat 51, .ofNat 52, .ofNat 53, .ofNat 54, .ofNat 55, .ofNat 56, .ofNat 57, .ofNat 48, .ofNat 49, .ofNat 50, .ofNat 51, .ofNat 52, .ofNat 53, .ofNat 54, .ofNat 55, .ofNat 56, .ofNat 57, .ofNat 48, .ofNat 49, .ofNat 50, .ofNat 51, .ofNat 52, .ofNat 53, .ofNat 54, .ofNat 55, .ofNat 56, .ofNat 57, .ofNat 48, .ofNat 49, .ofNat 50, .ofNat 51, .ofNat 52, .ofNat 53, .ofNat 54, .ofNat 55, .ofNat 56, .ofNat 57, .ofNat 48, .ofNat 49, .ofNat 50, .ofNat 51, .ofNat 52, .ofNat 53, .ofNat 54, .ofNat 55, .ofNat 56, .ofNat 57, .ofNat 48, .ofNat 49, .ofNat 50, .ofNat 51, .ofNat 52, .ofNat 53, .ofNat 54, .ofNat 55, .ofNat 56, .ofNat 57, .ofNat 48, .ofNat 49, .ofNat 50, .ofNat 51, .ofNat 52, .ofNat 53, .ofNat 54, .ofNat 55, .ofNat 56, .ofNat 57, .ofNat 48, .ofNat 49, .ofNat 50, .ofNat 51, .ofNat 52, .ofNat 53, .ofNat 54, .ofNat 55, .ofNat 56, .ofNat 57],
  .str [.chan (some 4129), .chan (some 4130), .chan (some 4131)],
  .str [.int .u8 (.ofNat 49), .int .u8 (.ofNat 48), .int .u8 (.ofNat 46), .int .u8 (.ofNat 48), .int .u8 (.ofNat 46), .int .u8 (.ofNat 48), .int .u8 (.ofNat 46), .chan (some 4129), .chan (some 4130), .chan (some 4131)],
  .str [.int .u8 (.ofNat 49), .int .u8 (.ofNat 48), .int .u8 (.ofNat 46), .int .u8 (.ofNat 48), .int .u8 (.ofNat 46), .int .u8 (.ofNat 48), .int .u8 (.ofNat 46), .chan (some 4129), .chan (some 4130), .chan (some 4131), .int .u8 (.ofNat 32), .int .u8 (.ofNat 104), .int .u8 (.ofNat 10)],
  .str [.int .u8 (.ofNat 49), .int .u8 (.ofNat 48), .int .u8 (.ofNat 46), .int .u8 (.ofNat 48), .int .u8 (.ofNat 46), .int .u8 (.ofNat 48), .int .u8 (.ofNat 46), .chan (some 4129), .chan (some 4130), .chan (some 4131), .int .u8 (.ofNat 32), .int .u8 (.ofNat 104)],
  .ent 34 (.chan (some 4110)) (.int .u8 (.ofNat 0)),
  .ent 34 (.chan (some 4112)) (.int .u8 (.ofNat 0)),
  .ent 34 (.chan (some 4116)) (.int .u8 (.ofNat 0)),
  .ent 34 (.chan (some 4129)) (.int .u8 (.ofNat 0)),
  .ent 34 (.chan (some 4130)) (.int .u8 (.ofNat 0)),
  .ent 34 (.chan (some 4131)) (.int .u8 (.ofNat 0)),
  .str [.int .u8 (.ofNat 48), .int .u8 (.ofNat 46), .int .u8 (.ofNat 48), .int .u8 (.ofNat 46), .chan (some 4129), .chan (some 4130), .chan (some 4131)],
  .str [.int .u8 (.ofNat 48), .int .u8 (.ofNat 46), .chan (some 4129), .chan (some 4130), .chan (some 4131)],
  .ent 1 (.chan (some 4129)) (.int .u8 (.ofNat 48)),
  .ent 39 (.chan (some 4144)) (.int .u8 (.ofNat 0)),
  .ent 1 (.chan (some 4130)) (.int .u8 (.ofNat 48)),
  .ent 2 (.chan (some 4145)) (.int .u64 (.ofNat 10)),
  .ent 39 (.chan (some 4146)) (.int .u8 (.ofNat 0)),
  .ent 0 (.chan (some 4147)) (.chan (some 4148)),
  .ent 1 (.chan (some 4131)) (.int .u8 (.ofNat 48)),
  .ent 2 (.chan (some 4149)) (.int .u64 (.ofNat 10)),
  .ent 39 (.chan (some 4150)) (.int .u8 (.ofNat 0)),
  .ent 0 (.chan (some 4151)) (.chan (some 4152)),
  .idx .i64 (.chan (some 4099)) 100 [.ofNat 7, .ofNat 7, .ofNat 7, .ofNat 7, .ofNat 7, .ofNat 7, .ofNat 7, .ofNat 7, .ofNat 7, .ofNat 7, .ofNat 7, .ofNat 7, .ofNat 7, .ofNat 7, .ofNat 7, .ofNat 7, .ofNat 7, .ofNat 7, .ofNat 7, .ofNat 7, .ofNat 7, .ofNat 7, .ofNat 7, .ofNat 7, .ofNat 7, .ofNat 7, .ofNat 7, .ofNat 7, .ofNat 8, .ofNat 8, .ofNat 8, .ofNat 8, .ofNat 8, .ofNat 8, .ofNat 8, .ofNat 8, .ofNat 8, .ofNat 8, .ofNat 8, .ofNat 8, .ofNat 8, .ofNat 8, .ofNat 8, .ofNat 8, .ofNat 8, .ofNat 8, .ofNat 8, .ofNat 8, .ofNat 8, .ofNat 8, .ofNat 8, .ofNat 8, .ofNat 8, .ofNat 8, .ofNat 8, .ofNat 8, .ofNat 8, .ofNat 8, .ofNat 8, .ofNat 8, .ofNat 8, .ofNat 8, .ofNat 8, .ofNat 8, .ofNat 8, .ofNat 8, .ofNat 8, .ofNat 8, .ofNat 8, .ofNat 8, .ofNat 8, .ofNat 8, .ofNat 8, .ofNat 8, .ofNat 8, .ofNat 8, .ofNat 8, .ofNat 8, .ofNat 8, .ofNat 8, .ofNat 8, .ofNat 8, .ofNat 8, .ofNat 8, .ofNat 8, .ofNat 8, .ofNat 8, .ofNat 8, .ofNat 8, .ofNat 8, .ofNat 8, .ofNat 8, .ofNat 8, .ofNat 8, .ofNat 8, .ofNat 8, .ofNat 8, .ofNat 8, .ofNat 8, .ofNat 8, .ofNat 8, .ofNat 8, .ofNat 8, .ofNat 8, .ofNat 8, .ofNat 8, .ofNat 8, .ofNat 8, .ofNat 8, .ofNat 8, .ofNat 8, .ofNat 8, .ofNat 8, .ofNat 8, .ofNat 8, .ofNat 8, .ofNat 8, .ofNat 8, .ofNat 8, .ofNat 8, .ofNat 8, .ofNat 8, .ofNat 8, .ofNat 8, .ofNat 8, .ofNat 8, .ofNat 8, .ofNat 8, .ofNat 8, .ofNat 8, .ofNat 8, .ofNat 8, .ofNat 8, .ofNat 8, .ofNat 8, .ofNat 8, .ofNat 8, .ofNat 8, .ofNat 8, .ofNat 8, .ofNat 8, .ofNat 8, .ofNat 8, .ofNat 8, .ofNat 8, .ofNat 8, .ofNat 8, .ofNat 8, .ofNat 8, .ofNat 8],
  .ent 2 (.chan (some 4154)) (.int .i64 (.ofNat 78913)),
  .ent 38 (.chan (some 4153)) (.int .u8 (.ofNat 0)),
  .ent 4 (.chan (some 4156)) (.int .u32 (.ofNat 100)),
  .ent 2 (.chan (some 4157)) (.int .u32 (.ofNat 2)),
  .ent 3 (.chan (some 4156)) (.int .u32 (.ofNat 100)),
  .ent 0 (.chan (some 4158)) (.int .u32 (.ofNat 1)),
  .ent 0 (.int .u32 (.ofNat 48)) (.chan (some 4159)),
  .ent 36 (.chan (some 4153)) (.int .u8 (.ofNat 0)),
  .str [.int .u8 (.ofNat 10), .int .u8 (.ofNat 0), .int .u8 (.ofNat 0), .chan (some 4162)],
  .str [.int .u8 (.ofNat 0), .int .u8 (.ofNat 0), .int .u8 (.ofNat 0), .int .u8 (.ofNat 0), .int .u8 (.ofNat 0), .int .u8 (.ofNat 0), .int .u8 (.ofNat 0), .int .u8 (.ofNat 0), .int .u8 (.ofNat 0), .int .u8 (.ofNat 0), .int .u8 (.ofNat 255), .int .u8 (.ofNat 255), .int .u8 (.ofNat 10), .int .u8 (.ofNat 0), .int .u8 (.ofNat 0), .chan (some 4162)],
  .crc [.int .u8 (.ofNat 1), .int .u8 (.ofNat 3), .int .u8 (.ofNat 0), .int .u8 (.ofNat 49), .int .u8 (.ofNat 47), .int .u8 (.ofNat 104), .int .u8 (.ofNat 0), .int .u8 (.ofNat 0), .int .u8 (.ofNat 0), .int .u8 (.ofNat 0), .int .u8 (.ofNat 0), .int .u8 (.ofNat 0), .int .u8 (.ofNat 0), .int .u8 (.ofNat 0), .int .u8 (.ofNat 0), .int .u8 (.ofNat 0), .int .u8 (.ofNat 0), .int .u8 (.ofNat 0), .int .u8 (.ofNat 0), .int .u8 (.ofNat 0), .int .u8 (.ofNat 0), .int .u8 (.ofNat 0), .int .u8 (.ofNat 88), .int .u8 (.ofNat 2), .int .u8 (.ofNat 0), .int .u8 (.ofNat 0), .int .u8 (.ofNat 0), .int .u8 (.ofNat 0), .int .u8 (.ofNat 0), .int .u8 (.ofNat 0), .int .u8 (.ofNat 88), .int .u8 (.ofNat 2), .int .u8 (.ofNat 0), .int .u8 (.ofNat 0), .int .u8 (.ofNat 0), .int .u8 (.ofNat 0), .int .u8 (.ofNat 0), .int .u8 (.ofNat 0), .int .u8 (.ofNat 0), .int .u8 (.ofNat 1), .int .u8 (.ofNat 4), .int .u8 (.ofNat 0), .int .u8 (.ofNat 10), .int .u8 (.ofNat 0), .int .u8 (.ofNat 0), .chan (some 4162), .int .u8 (.ofNat 1), .int .u8 (.ofNat 10), .int .u8 (.ofNat 0), .int .u8 (.ofNat 47), .int .u8 (.ofNat 101), .int .u8 (.ofNat 116), .int .u8 (.ofNat 99), .int .u8 (.ofNat 47), .int .u8 (.ofNat 104), .int .u8 (.ofNat 111), .int .u8 (.ofNat 115), .int .u8 (.ofNat 116), .int .u8 (.ofNat 115), .int .u8 (.ofNat 2), .int .u8 (.ofNat 0), .int .u8 (.ofNat 0), .int .u8 (.ofNat 0), .int .u8 (.ofNat 0), .int .u8 (.ofNat 0), .int .u8 (.ofNat 0), .int .u8 (.ofNat 0)],
  .ent 39 (.chan (some 4165)) (.int .u8 (.ofNat 0)),
  .ent 9 (.chan (some 4166)) (.int .i64 (.ofNat 0)),
  .ent 36 (.chan (some 4167)) (.int .u8 (.ofNat 0)),
  .ent 9 (.chan (some 4166)) (.int .i64 (.ofNat 8)),
  .ent 36 (.chan (some 4169)) (.int .u8 (.ofNat 0)),
  .ent 9 (.chan (some 4166)) (.int .i64 (.ofNat 16)),
  .ent 36 (.chan (some 4171)) (.int .u8 (.ofNat 0)),
  .ent 9 (.chan (some 4166)) (.int .i64 (.ofNat 24)),
  .ent 36 (.chan (some 4173)) (.int .u8 (.ofNat 0)),
  .str [.chan (some 4116)],
  .str [.chan (some 4162)]]
noncomputable def tabS : List NInfo := [⟨none, none, []⟩,
  ⟨none, none, []⟩,
  ⟨none, none, []⟩,
  ⟨none, none, []⟩,
  ⟨none, none, [⟨34, .chan (some 4100), .int .u8 (.ofNat 0), .chan (some 4106)⟩, ⟨1, .chan (some 4100), .int .u8 (.ofNat 48), .chan (some 4110)⟩]⟩,
  ⟨none, none, [⟨34, .chan (some 4101), .int .u8 (.ofNat 0), .chan (some 4107)⟩, ⟨1, .chan (some 4101), .int .u8 (.ofNat 48), .chan (some 4112)⟩]⟩,
  ⟨none, some [.chan (some 4100), .chan (some 4101)], []⟩,
  ⟨none, some [.int .u8 (.ofNat 49), .int .u8 (.ofNat 48), .int .u8 (.ofNat 46), .int .u8 (.ofNat 48), .int .u8 (.ofNat 46), .int .u8 (.ofNat 48), .int .u8 (.ofNat 46), .chan (some 4100), .chan (some 4101)], []⟩,
  ⟨none, some [.int .u8 (.ofNat 49), .int .u8 (.ofNat 48), .int .u8 (.ofNat 46), .int .u8 (.ofNat 48), .int .u8 (.ofNat 46), .int .u8 (.ofNat 48), .int .u8 (.ofNat 46), .chan (some 4100), .chan (some 4101), .int .u8 (.ofNat 32), .int .u8 (.ofNat 104), .int .u8 (.ofNat 10)], []⟩,
  ⟨none, some [.int .u8 (.ofNat 49), .int .u8 (.ofNat 48), .int .u8 (.ofNat 46), .int .u8 (.ofNat 48), .int .u8 (.ofNat 46), .int .u8 (.ofNat 48), .int .u8 (.ofNat 46), .chan (some 4100), .chan (some 4101), .int .u8 (.ofNat 32), .int .u8 (.ofNat 104)], []⟩,
  ⟨none, none, []⟩,
  ⟨none, none, []⟩,
  ⟨none, some [.int .u8 (.ofNat 48), .int .u8 (.ofNat 46), .int .u8 (.ofNat 48), .int .u8 (.ofNat 46), .chan (some 4100), .chan (some 4101)], []⟩,
  ⟨none, some [.int .u8 (.ofNat 48), .int .u8 (.ofNat 46), .chan (some 4100), .chan (some 4101)], []⟩,
  ⟨none, none, [⟨39, .chan (some 4110), .int .u8 (.ofNat 0), .chan (some 4111)⟩, ⟨34, .chan (some 4110), .int .u8 (.ofNat 0), .chan (some 4136)⟩]⟩,
  ⟨none, none, [⟨2, .chan (some 4111), .int .u64 (.ofNat 10), .chan (some 4113)⟩]⟩,
  ⟨none, none, [⟨39, .chan (some 4112), .int .u8 (.ofNat 0), .chan (some 4114)⟩, ⟨34, .chan (some 4112), .int .u8 (.ofNat 0), .chan (some 4137)⟩]⟩,
  ⟨none, none, [⟨0, .chan (some 4113), .chan (some 4114), .chan (some 4115)⟩]⟩,
  ⟨none, none, []⟩,
  ⟨none, none, [⟨36, .chan (some 4115), .int .u8 (.ofNat 0), .chan (some 4116)⟩]⟩,
  ⟨none, none, [⟨34, .chan (some 4116), .int .u8 (.ofNat 0), .chan (some 4138)⟩]⟩,
  ⟨none, some [.int .u8 (.ofNat 10), .int .u8 (.ofNat 0), .int .u8 (.ofNat 0), .chan (some 4116)], []⟩,
  ⟨none, some [.int .u8 (.ofNat 0), .int .u8 (.ofNat 0), .int .u8 (.ofNat 0), .int .u8 (.ofNat 0), .int .u8 (.ofNat 0), .int .u8 (.ofNat 0), .int .u8 (.ofNat 0), .int .u8 (.ofNat 0), .int .u8 (.ofNat 0), .int .u8 (.ofNat 0), .int .u8 (.ofNat 255), .int .u8 (.ofNat 255), .int .u8 (.ofNat 10), .int .u8 (.ofNat 0), .int .u8 (.ofNat 0), .chan (some 4116)], []⟩,
  ⟨some (.u32, (.ofNat 0), (.ofNat 4294967295)), none, [⟨39, .chan (some 4119), .int .u8 (.ofNat 0), .chan (some 4120)⟩]⟩,
  ⟨some (.u64, (.ofNat 0), (.ofNat 18446744073709551615)), none, [⟨9, .chan (some 4120), .int .i64 (.ofNat 0), .chan (some 4121)⟩, ⟨9, .chan (some 4120), .int .i64 (.ofNat 8), .chan (some 4123)⟩, ⟨9, .chan (some 4120), .int .i64 (.ofNat 16), .chan (some 4125)⟩, ⟨9, .chan (some 4120), .int .i64 (.ofNat 24), .chan (some 4127)⟩]⟩,
  ⟨some (.u64, (.ofNat 0), (.ofNat 18446744073709551615)), none, [⟨36, .chan (some 4121), .int .u8 (.ofNat 0), .chan (some 4122)⟩]⟩,
  ⟨some (.u8, (.ofNat 0), (.ofNat 255)), none, []⟩,
  ⟨some (.u64, (.ofNat 0), (.ofNat 18446744073709551615)), none, [⟨36, .chan (some 4123), .int .u8 (.ofNat 0), .chan (some 4124)⟩]⟩,
  ⟨some (.u8, (.ofNat 0), (.ofNat 255)), none, []⟩,
  ⟨some (.u64, (.ofNat 0), (.ofNat 18446744073709551615)), none, [⟨36, .chan (some 4125), .int .u8 (.ofNat 0), .chan (some 4126)⟩]⟩,
  ⟨some (.u8, (.ofNat 0), (.ofNat 255)), none, []⟩,
  ⟨some (.u64, (.ofNat 0), (.ofNat 18446744073709551615)), none, [⟨36, .chan (some 4127), .int .u8 (.ofNat 0), .chan (some 4128)⟩]⟩,
  ⟨some (.u8, (.ofNat 0), (.ofNat 255)), none, []⟩,
  ⟨none, none, [⟨34, .chan (some 4129), .int .u8 (.ofNat 0), .chan (some 4139)⟩, ⟨1, .chan (some 4129), .int .u8 (.ofNat 48), .chan (some 4144)⟩]⟩,
  ⟨none, none, [⟨34, .chan (some 4130), .int .u8 (.ofNat 0), .chan (some 4140)⟩, ⟨1, .chan (some 4130), .int .u8 (.ofNat 48), .chan (some 4146)⟩]⟩,
  ⟨none, none, [⟨34, .chan (some 4131), .int .u8 (.ofNat 0), .chan (some 4141)⟩, ⟨1, .chan (some 4131), .int .u8 (.ofNat 48), .chan (some 4150)⟩]⟩,
  ⟨none, some [.chan (some 4129), .chan (some 4130), .chan (some 4131)], []⟩,
  ⟨none, some [.int .u8 (.ofNat 49), .int .u8 (.ofNat 48), .int .u8 (.ofNat 46), .int .u8 (.ofNat 48), .int .u8 (.ofNat 46), .int .u8 (.ofNat 48), .int .u8 (.ofNat 46), .chan (some 4129), .chan (some 4130), .chan (some 4131)], []⟩,
  ⟨none, some [.int .u8 (.ofNat 49), .int .u8 (.ofNat 48), .int .u8 (.ofNat 46), .int .u8 (.ofNat 48), .int .u8 (.ofNat 46), .int .u8 (.ofNat 48), .int .u8 (.ofNat 46), .chan (some 4129), .chan (some 4130), .chan (some 4131), .int .u8 (.ofNat 32), .int .u8 (.ofNat 104), .int .u8 (.ofNat 10)], []⟩,
  ⟨none, some [.int .u8 (.ofNat 49), .int .u8 (.ofNat 48), .int .u8 (.ofNat 46), .int .u8 (.ofNat 48), .int .u8 (.ofNat 46), .int .u8 (.ofNat 48), .int .u8 (.ofNat 46), .chan (some 4129), .chan (some 4130), .chan (some 4131), .int .u8 (.ofNat 32), .int .u8 (.ofNat 104)], []⟩,
  ⟨none, none, []⟩,
  ⟨none, none, []⟩,
  ⟨none, none, []⟩,
  ⟨none, none, []⟩,
  ⟨none, none, []⟩,
  ⟨none, none, []⟩,
  ⟨none, some [.int .u8 (.ofNat 48), .int .u8 (.ofNat 46), .int .u8 (.ofNat 48), .int .u8 (.ofNat 46), .chan (some 4129), .chan (some 4130), .chan (some 4131)], []⟩,
  ⟨none, some [.int .u8 (.ofNat 48), .int .u8 (.ofNat 46), .chan (some 4129), .chan (some 4130), .chan (some 4131)], []⟩,
  ⟨none, none, [⟨39, .chan (some 4144), .int .u8 (.ofNat 0), .chan (some 4145)⟩]⟩,
  ⟨none, none, [⟨2, .chan (some 4145), .int .u64 (.ofNat 10), .chan (some 4147)⟩]⟩,
  ⟨none, none, [⟨39, .chan (some 4146), .int .u8 (.ofNat 0), .chan (some 4148)⟩]⟩,
  ⟨none, none, [⟨0, .chan (some 4147), .chan (some 4148), .chan (some 4149)⟩]⟩,
  ⟨none, none, []⟩,
  ⟨none, none, [⟨2, .chan (some 4149), .int .u64 (.ofNat 10), .chan (some 4151)⟩]⟩,
  ⟨none, none, [⟨39, .chan (some 4150), .int .u8 (.ofNat 0), .chan (some 4152)⟩]⟩,
  ⟨none, none, [⟨0, .chan (some 4151), .chan (some 4152), .chan (some 4153)⟩]⟩,
  ⟨none, none, []⟩,
  ⟨none, none, [⟨38, .chan (some 4153), .int .u8 (.ofNat 0), .chan (some 4156)⟩, ⟨36, .chan (some 4153), .int .u8 (.ofNat 0), .chan (some 4162)⟩]⟩,
  ⟨none, none, [⟨2, .chan (some 4154), .int .i64 (.ofNat 78913), .chan (some 4155)⟩]⟩,
  ⟨none, none, []⟩,
  ⟨none, none, [⟨4, .chan (some 4156), .int .u32 (.ofNat 100), .chan (some 4157)⟩, ⟨3, .chan (some 4156), .int .u32 (.ofNat 100), .chan (some 4159)⟩]⟩,
  ⟨none, none, [⟨2, .chan (some 4157), .int .u32 (.ofNat 2), .chan (some 4158)⟩]⟩,
  ⟨none, none, [⟨0, .chan (some 4158), .int .u32 (.ofNat 1), .chan (some 4160)⟩]⟩,
  ⟨none, none, [⟨0, .int .u32 (.ofNat 48), .chan (some 4159), .chan (some 4161)⟩]⟩,
  ⟨none, none, []⟩,
  ⟨none, none, []⟩,
  ⟨none, none, []⟩,
  ⟨none, some [.int .u8 (.ofNat 10), .int .u8 (.ofNat 0), .int .u8 (.ofNat 0), .chan (some 4162)], []⟩,
  ⟨none, some [.int .u8 (.ofNat 0), .int .u8 (.ofNat 0), .int .u8 (.ofNat 0), .int .u8 (.ofNat 0), .int .u8 (.ofNat 0), .int .u8 (.ofNat 0), .int .u8 (.ofNat 0), .int .u8 (.ofNat 0), .int .u8 (.ofNat 0), .int .u8 (.ofNat 0), .int .u8 (.ofNat 255), .int .u8 (.ofNat 255), .int .u8 (.ofNat 10), .int .u8 (.ofNat 0), .int .u8 (.ofNat 0), .chan (some 4162)], []⟩,
  ⟨some (.u32, (.ofNat 0), (.ofNat 4294967295)), none, [⟨39, .chan (some 4165), .int .u8 (.ofNat 0), .chan (some 4166)⟩]⟩,
  ⟨some (.u64, (.ofNat 0), (.ofNat 18446744073709551615)), none, [⟨9, .chan (some 4166), .int .i64 (.ofNat 0), .chan (some 4167)⟩, ⟨9, .chan (some 4166), .int .i64 (.ofNat 8), .chan (some 4169)⟩, ⟨9, .chan (some 4166), .int .i64 (.ofNat 16), .chan (some 4171)⟩, ⟨9, .chan (some 4166), .int .i64 (.ofNat 24), .chan (some 4173)⟩]⟩,
  ⟨some (.u64, (.ofNat 0), (.ofNat 18446744073709551615)), none, [⟨36, .chan (some 4167), .int .u8 (.ofNat 0), .chan (some 4168)⟩]⟩,
  ⟨some (.u8, (.ofNat 0), (.ofNat 255)), none, []⟩,
  ⟨some (.u64, (.ofNat 0), (.ofNat 18446744073709551615)), none, [⟨36, .chan (some 4169), .int .u8 (.ofNat 0), .chan (some 4170)⟩]⟩,
  ⟨some (.u8, (.ofNat 0), (.ofNat 255)), none, []⟩,
  ⟨some (.u64, (.ofNat 0), (.ofNat 18446744073709551615)), none, [⟨36, .chan (some 4171), .int .u8 (.ofNat 0), .chan (some 4172)⟩]⟩,
  ⟨some (.u8, (.ofNat 0), (.ofNat 255)), none, []⟩,
  ⟨some (.u64, (.ofNat 0), (.ofNat 18446744073709551615)), none, [⟨36, .chan (some 4173), .int .u8 (.ofNat 0), .chan (some 4174)⟩]⟩,
  ⟨some (.u8, (.ofNat 0), (.ofNat 255)), none, []⟩,
  ⟨none, some [.chan (some 4116)], []⟩,
  ⟨none, some [.chan (some 4162)], []⟩]
noncomputable def tab0 : List NInfo := [⟨none, none, []⟩,
  ⟨none, none, []⟩,
  ⟨some (.i64, (.ofNat 10), (.ofNat 99)), none, [⟨36, .chan (some 4098), .int .u8 (.ofNat 0), .chan (some 4116)⟩]⟩,
  ⟨none, none, []⟩,
  ⟨some (.u8, (.ofNat 49), (.ofNat 57)), none, []⟩,
  ⟨some (.u8, (.ofNat 48), (.ofNat 57)), none, []⟩,
  ⟨none, none, []⟩,
  ⟨none, none, []⟩,
  ⟨none, none, []⟩,
  ⟨none, none, []⟩,
  ⟨some (.i32, (.ofNat 49), (.ofNat 57)), none, []⟩,
  ⟨some (.i32, (.ofNat 48), (.ofNat 57)), none, []⟩,
  ⟨none, none, []⟩,
  ⟨none, none, []⟩,
  ⟨some (.u8, (.ofNat 1), (.ofNat 9)), none, []⟩,
  ⟨some (.u64, (.ofNat 1), (.ofNat 9)), none, [⟨0, .int .u64 (.ofNat 0), .chan (some 4111), .chan (some 4111)⟩]⟩,
  ⟨some (.u8, (.ofNat 0), (.ofNat 9)), none, []⟩,
  ⟨some (.u64, (.ofNat 10), (.ofNat 90)), none, []⟩,
  ⟨some (.u64, (.ofNat 0), (.ofNat 9)), none, []⟩,
  ⟨some (.u64, (.ofNat 10), (.ofNat 99)), none, [⟨13, .chan (some 4115), .chan (some 4113), .bool false⟩, ⟨35, .chan (some 4115), .int .u8 (.ofNat 0), .chan (some 4098)⟩]⟩,
  ⟨some (.u8, (.ofNat 10), (.ofNat 99)), none, []⟩,
  ⟨none, none, []⟩,
  ⟨none, none, []⟩,
  ⟨none, none, []⟩,
  ⟨none, none, []⟩,
  ⟨none, none, []⟩,
  ⟨none, none, []⟩,
  ⟨none, none, []⟩,
  ⟨none, none, []⟩,
  ⟨none, none, []⟩,
  ⟨none, none, []⟩,
  ⟨none, none, []⟩,
  ⟨none, none, []⟩,
  ⟨none, none, []⟩,
  ⟨none, none, []⟩,
  ⟨none, none, []⟩,
  ⟨none, none, []⟩,
  ⟨none, none, []⟩,
  ⟨none, none, []⟩,
  ⟨none, none, []⟩,
  ⟨some (.i32, (.ofNat 1), (.ofNat 9)), none, []⟩,
  ⟨some (.i32, (.ofNat 0), (.ofNat 9)), none, []⟩,
  ⟨some (.i32, (.ofNat 10), (.ofNat 99)), none, []⟩,
  ⟨none, none, []⟩,
  ⟨none, none, []⟩,
  ⟨none, none, []⟩,
  ⟨none, none, []⟩,
  ⟨none, none, []⟩,
  ⟨none, none, []⟩,
  ⟨none, none, []⟩,
  ⟨none, none, []⟩,
  ⟨none, none, []⟩,
  ⟨none, none, []⟩,
  ⟨none, none, []⟩,
  ⟨none, none, []⟩,
  ⟨none, none, []⟩,
  ⟨none, none, []⟩,
  ⟨none, none, []⟩,
  ⟨none, none, []⟩,
  ⟨none, none, []⟩,
  ⟨none, none, []⟩,
  ⟨none, none, []⟩,
  ⟨none, none, []⟩,
  ⟨none, none, []⟩,
  ⟨none, none, []⟩,
  ⟨none, none, []⟩,
  ⟨none, none, []⟩,
  ⟨none, none, []⟩,
  ⟨none, none, []⟩,
  ⟨none, none, []⟩,
  ⟨none, none, []⟩,
  ⟨none, none, []⟩,
  ⟨none, none, []⟩,
  ⟨none, none, []⟩,
  ⟨none, none, []⟩,
  ⟨none, none, []⟩,
  ⟨none, none, []⟩,
  ⟨none, none, []⟩,
  ⟨none, none, []⟩,
  ⟨none, none, []⟩,
  ⟨none, none, []⟩]
noncomputable def tab1 : List NInfo := [⟨none, none, []⟩,
  ⟨none, none, []⟩,
  ⟨none, none, []⟩,
  ⟨some (.i64, (.ofNat 100), (.ofNat 249)), none, [⟨36, .chan (some 4099), .int .u8 (.ofNat 0), .chan (some 4162)⟩]⟩,
  ⟨none, none, []⟩,
  ⟨none, none, []⟩,
  ⟨none, none, []⟩,
  ⟨none, none, []⟩,
  ⟨none, none, []⟩,
  ⟨none, none, []⟩,
  ⟨none, none, []⟩,
  ⟨none, none, []⟩,
  ⟨none, none, []⟩,
  ⟨none, none, []⟩,
  ⟨none, none, []⟩,
  ⟨none, none, []⟩,
  ⟨none, none, []⟩,
  ⟨none, none, []⟩,
  ⟨none, none, []⟩,
  ⟨none, none, []⟩,
  ⟨none, none, []⟩,
  ⟨none, none, []⟩,
  ⟨none, none, []⟩,
  ⟨none, none, []⟩,
  ⟨none, none, []⟩,
  ⟨none, none, []⟩,
  ⟨none, none, []⟩,
  ⟨none, none, []⟩,
  ⟨none, none, []⟩,
  ⟨none, none, []⟩,
  ⟨none, none, []⟩,
  ⟨none, none, []⟩,
  ⟨none, none, []⟩,
  ⟨some (.u8, (.ofNat 49), (.ofNat 50)), none, []⟩,
  ⟨some (.u8, (.ofNat 48), (.ofNat 57)), none, []⟩,
  ⟨some (.u8, (.ofNat 48), (.ofNat 57)), none, []⟩,
  ⟨none, none, []⟩,
  ⟨none, none, []⟩,
  ⟨none, none, []⟩,
  ⟨none, none, []⟩,
  ⟨none, none, []⟩,
  ⟨none, none, []⟩,
  ⟨none, none, []⟩,
  ⟨some (.i32, (.ofNat 49), (.ofNat 50)), none, []⟩,
  ⟨some (.i32, (.ofNat 48), (.ofNat 57)), none, []⟩,
  ⟨some (.i32, (.ofNat 48), (.ofNat 57)), none, []⟩,
  ⟨none, none, []⟩,
  ⟨none, none, []⟩,
  ⟨some (.u8, (.ofNat 1), (.ofNat 2)), none, []⟩,
  ⟨some (.u64, (.ofNat 1), (.ofNat 2)), none, [⟨0, .int .u64 (.ofNat 0), .chan (some 4145), .chan (some 4145)⟩]⟩,
  ⟨some (.u8, (.ofNat 0), (.ofNat 9)), none, []⟩,
  ⟨some (.u64, (.ofNat 10), (.ofNat 20)), none, []⟩,
  ⟨some (.u64, (.ofNat 0), (.ofNat 9)), none, []⟩,
  ⟨some (.u64, (.ofNat 10), (.ofNat 24)), none, [⟨13, .chan (some 4149), .chan (some 4147), .bool false⟩]⟩,
  ⟨some (.u8, (.ofNat 0), (.ofNat 9)), none, []⟩,
  ⟨some (.u64, (.ofNat 100), (.ofNat 240)), none, []⟩,
  ⟨some (.u64, (.ofNat 0), (.ofNat 9)), none, []⟩,
  ⟨some (.u64, (.ofNat 100), (.ofNat 249)), none, [⟨13, .chan (some 4153), .chan (some 4151), .bool false⟩]⟩,
  ⟨some (.i64, (.ofNat 7), (.ofNat 8)), none, []⟩,
  ⟨some (.i64, (.ofNat 552391), (.ofNat 631304)), none, [⟨9, .chan (some 4155), .int .u64 (.ofNat 18), .int .i64 (.ofNat 2)⟩]⟩,
  ⟨some (.u32, (.ofNat 100), (.ofNat 249)), none, []⟩,
  ⟨some (.u32, (.ofNat 0), (.ofNat 99)), none, []⟩,
  ⟨some (.u32, (.ofNat 0), (.ofNat 198)), none, [⟨70, .chan (some 4158), .string ⟨⟨[48, 48, 48, 49, 48, 50, 48, 51, 48, 52, 48, 53, 48, 54, 48, 55, 48, 56, 48, 57, 49, 48, 49, 49, 49, 50, 49, 51, 49, 52, 49, 53, 49, 54, 49, 55, 49, 56, 49, 57, 50, 48, 50, 49, 50, 50, 50, 51, 50, 52, 50, 53, 50, 54, 50, 55, 50, 56, 50, 57, 51, 48, 51, 49, 51, 50, 51, 51, 51, 52, 51, 53, 51, 54, 51, 55, 51, 56, 51, 57, 52, 48, 52, 49, 52, 50, 52, 51, 52, 52, 52, 53, 52, 54, 52, 55, 52, 56, 52, 57, 53, 48, 53, 49, 53, 50, 53, 51, 53, 52, 53, 53, 53, 54, 53, 55, 53, 56, 53, 57, 54, 48, 54, 49, 54, 50, 54, 51, 54, 52, 54, 53, 54, 54, 54, 55, 54, 56, 54, 57, 55, 48, 55, 49, 55, 50, 55, 51, 55, 52, 55, 53, 55, 54, 55, 55, 55, 56, 55, 57, 56, 48, 56, 49, 56, 50, 56, 51, 56, 52, 56, 53, 56, 54, 56, 55, 56, 56, 56, 57, 57, 48, 57, 49, 57, 50, 57, 51, 57, 52, 57, 53, 57, 54, 57, 55, 57, 56, 57, 57]⟩⟩, .chan (some 4130)⟩]⟩,
  ⟨some (.u32, (.ofNat 1), (.ofNat 2)), none, []⟩,
  ⟨some (.u32, (.ofNat 1), (.ofNat 199)), none, [⟨70, .chan (some 4160), .string ⟨⟨[48, 48, 48, 49, 48, 50, 48, 51, 48, 52, 48, 53, 48, 54, 48, 55, 48, 56, 48, 57, 49, 48, 49, 49, 49, 50, 49, 51, 49, 52, 49, 53, 49, 54, 49, 55, 49, 56, 49, 57, 50, 48, 50, 49, 50, 50, 50, 51, 50, 52, 50, 53, 50, 54, 50, 55, 50, 56, 50, 57, 51, 48, 51, 49, 51, 50, 51, 51, 51, 52, 51, 53, 51, 54, 51, 55, 51, 56, 51, 57, 52, 48, 52, 49, 52, 50, 52, 51, 52, 52, 52, 53, 52, 54, 52, 55, 52, 56, 52, 57, 53, 48, 53, 49, 53, 50, 53, 51, 53, 52, 53, 53, 53, 54, 53, 55, 53, 56, 53, 57, 54, 48, 54, 49, 54, 50, 54, 51, 54, 52, 54, 53, 54, 54, 54, 55, 54, 56, 54, 57, 55, 48, 55, 49, 55, 50, 55, 51, 55, 52, 55, 53, 55, 54, 55, 55, 55, 56, 55, 57, 56, 48, 56, 49, 56, 50, 56, 51, 56, 52, 56, 53, 56, 54, 56, 55, 56, 56, 56, 57, 57, 48, 57, 49, 57, 50, 57, 51, 57, 52, 57, 53, 57, 54, 57, 55, 57, 56, 57, 57]⟩⟩, .chan (some 4131)⟩]⟩,
  ⟨some (.u32, (.ofNat 49), (.ofNat 50)), none, [⟨36, .chan (some 4161), .int .u8 (.ofNat 0), .chan (some 4129)⟩]⟩,
  ⟨some (.u8, (.ofNat 100), (.ofNat 249)), none, []⟩,
  ⟨none, none, []⟩,
  ⟨none, none, []⟩,
  ⟨none, none, []⟩,
  ⟨none, none, []⟩,
  ⟨none, none, []⟩,
  ⟨none, none, []⟩,
  ⟨none, none, []⟩,
  ⟨none, none, []⟩,
  ⟨none, none, []⟩,
  ⟨none, none, []⟩,
  ⟨none, none, []⟩,
  ⟨none, none, []⟩,
  ⟨none, none, []⟩,
  ⟨none, none, []⟩]
noncomputable def tab : List NInfo := (unionT tabS (unionT tab0 tab1))
noncomputable def crcs : List (List Value × Value) := [([.int .u8 (.ofNat 1), .int .u8 (.ofNat 3), .int .u8 (.ofNat 0), .int .u8 (.ofNat 49), .int .u8 (.ofNat 47), .int .u8 (.ofNat 104), .int .u8 (.ofNat 0), .int .u8 (.ofNat 0), .int .u8 (.ofNat 0), .int .u8 (.ofNat 0), .int .u8 (.ofNat 0), .int .u8 (.ofNat 0), .int .u8 (.ofNat 0), .int .u8 (.ofNat 0), .int .u8 (.ofNat 0), .int .u8 (.ofNat 0), .int .u8 (.ofNat 0), .int .u8 (.ofNat 0), .int .u8 (.ofNat 0), .int .u8 (.ofNat 0), .int .u8 (.ofNat 0), .int .u8 (.ofNat 0), .int .u8 (.ofNat 88), .int .u8 (.ofNat 2), .int .u8 (.ofNat 0), .int .u8 (.ofNat 0), .int .u8 (.ofNat 0), .int .u8 (.ofNat 0), .int .u8 (.ofNat 0), .int .u8 (.ofNat 0), .int .u8 (.ofNat 88), .int .u8 (.ofNat 2), .int .u8 (.ofNat 0), .int .u8 (.ofNat 0), .int .u8 (.ofNat 0), .int .u8 (.ofNat 0), .int .u8 (.ofNat 0), .int .u8 (.ofNat 0), .int .u8 (.ofNat 0), .int .u8 (.ofNat 1), .int .u8 (.ofNat 4), .int .u8 (.ofNat 0), .int .u8 (.ofNat 10), .int .u8 (.ofNat 0), .int .u8 (.ofNat 0), .chan (some 4116), .int .u8 (.ofNat 1), .int .u8 (.ofNat 10), .int .u8 (.ofNat 0), .int .u8 (.ofNat 47), .int .u8 (.ofNat 101), .int .u8 (.ofNat 116), .int .u8 (.ofNat 99), .int .u8 (.ofNat 47), .int .u8 (.ofNat 104), .int .u8 (.ofNat 111), .int .u8 (.ofNat 115), .int .u8 (.ofNat 116), .int .u8 (.ofNat 115), .int .u8 (.ofNat 1), .int .u8 (.ofNat 0), .int .u8 (.ofNat 0), .int .u8 (.ofNat 0), .int .u8 (.ofNat 0), .int .u8 (.ofNat 0), .int .u8 (.ofNat 0), .int .u8 (.ofNat 0)], .chan (some 4119)),
  ([.int .u8 (.ofNat 1), .int .u8 (.ofNat 3), .int .u8 (.ofNat 0), .int .u8 (.ofNat 49), .int .u8 (.ofNat 47), .int .u8 (.ofNat 104), .int .u8 (.ofNat 0), .int .u8 (.ofNat 0), .int .u8 (.ofNat 0), .int .u8 (.ofNat 0), .int .u8 (.ofNat 0), .int .u8 (.ofNat 0), .int .u8 (.ofNat 0), .int .u8 (.ofNat 0), .int .u8 (.ofNat 0), .int .u8 (.ofNat 0), .int .u8 (.ofNat 0), .int .u8 (.ofNat 0), .int .u8 (.ofNat 0), .int .u8 (.ofNat 0), .int .u8 (.ofNat 0), .int .u8 (.ofNat 0), .int .u8 (.ofNat 88), .int .u8 (.ofNat 2), .int .u8 (.ofNat 0), .int .u8 (.ofNat 0), .int .u8 (.ofNat 0), .int .u8 (.ofNat 0), .int .u8 (.ofNat 0), .int .u8 (.ofNat 0), .int .u8 (.ofNat 88), .int .u8 (.ofNat 2), .int .u8 (.ofNat 0), .int .u8 (.ofNat 0), .int .u8 (.ofNat 0), .int .u8 (.ofNat 0), .int .u8 (.ofNat 0), .int .u8 (.ofNat 0), .int .u8 (.ofNat 0), .int .u8 (.ofNat 1), .int .u8 (.ofNat 4), .int .u8 (.ofNat 0), .int .u8 (.ofNat 10), .int .u8 (.ofNat 0), .int .u8 (.ofNat 0), .chan (some 4162), .int .u8 (.ofNat 1), .int .u8 (.ofNat 10), .int .u8 (.ofNat 0), .int .u8 (.ofNat 47), .int .u8 (.ofNat 101), .int .u8 (.ofNat 116), .int .u8 (.ofNat 99), .int .u8 (.ofNat 47), .int .u8 (.ofNat 104), .int .u8 (.ofNat 111), .int .u8 (.ofNat 115), .int .u8 (.ofNat 116), .int .u8 (.ofNat 115), .int .u8 (.ofNat 2), .int .u8 (.ofNat 0), .int .u8 (.ofNat 0), .int .u8 (.ofNat 0), .int .u8 (.ofNat 0), .int .u8 (.ofNat 0), .int .u8 (.ofNat 0), .int .u8 (.ofNat 0)], .chan (some 4165))]
noncomputable abbrev base (a0 : Int) (a1 : Int) (x0 : Nat) (x1 : Nat) : List Value := [.int .i64 a0, .int .i64 a1, .int .i64 (.ofNat x0), .int .i64 (.ofNat x1)]
noncomputable abbrev G (a0 : Int) (a1 : Int) (x0 : Nat) (x1 : Nat) : Sym := symL (mkVals ds (base a0 a1 x0 x1))
set_option maxRecDepth 100000 in
theorem refs_ok : refsAll ds 4 = true := by kernel_rfl
set_option maxRecDepth 100000 in
theorem nam_ok : namDs ds = true := by kernel_rfl
set_option maxRecDepth 100000 in
theorem len_ok : Nat.ble tab.length 4096 = true := by kernel_rfl
set_option maxRecDepth 100000 in
theorem crcs_ok : crcsB ds 4 crcs = true := by kernel_rfl
set_option maxRecDepth 100000 in
theorem sym_ok : symTab (ksOf ds [none, none, some .i64, some .i64]) ds 4 tabS 0 = true := by kernel_rfl
set_option maxRecDepth 100000 in
theorem tab0_all (a0 : Int) (a1 : Int) (x1 : Nat) : allB 90 (fun i0 => tabB (G a0 a1 (10 + i0) x1) tab0 0) = true := by kernel_rfl
theorem tab0_ok (a0 : Int) (a1 : Int) (x0 : Nat) (x1 : Nat) (h0 : 10 ≤ x0 ∧ x0 < 100) (h1 : 100 ≤ x1 ∧ x1 < 250) : TabOk (G a0 a1 x0 x1) tab0 := by
  have h := (allB_spec (tab0_all a0 a1 x1) (x0 - 10) (by omega))
  rw [show 10 + (x0 - 10) = x0 by omega] at h
  exact tabB_part h
set_option maxRecDepth 100000 in
theorem tab1_all (a0 : Int) (a1 : Int) (x0 : Nat) : allB 150 (fun i1 => tabB (G a0 a1 x0 (100 + i1)) tab1 0) = true := by kernel_rfl
theorem tab1_ok (a0 : Int) (a1 : Int) (x0 : Nat) (x1 : Nat) (h0 : 10 ≤ x0 ∧ x0 < 100) (h1 : 100 ≤ x1 ∧ x1 < 250) : TabOk (G a0 a1 x0 x1) tab1 := by
  have h := (allB_spec (tab1_all a0 a1 x0) (x1 - 100) (by omega))
  rw [show 100 + (x1 - 100) = x1 by omega] at h
  exact tabB_part h
theorem kinv (a0 : Int) (a1 : Int) (x0 : Nat) (x1 : Nat) (h0 : 10 ≤ x0 ∧ x0 < 100) (h1 : 100 ≤ x1 ∧ x1 < 250) : KInv (symL (base a0 a1 x0 x1)) [none, none, some .i64, some .i64] := by
  intro i k hi
  match i, hi with
  | 0, hi => cases hi
  | 1, hi => cases hi
  | 2, hi => cases hi; exact ⟨.ofNat x0, rfl, by rw [inK_iff]; show (-9223372036854775808 : Int) ≤ (x0 : Int) ∧ (x0 : Int) ≤ 9223372036854775807; omega⟩
  | 3, hi => cases hi; exact ⟨.ofNat x1, rfl, by rw [inK_iff]; show (-9223372036854775808 : Int) ≤ (x1 : Int) ∧ (x1 : Int) ≤ 9223372036854775807; omega⟩
  | n + 4, hi => cases hi
theorem named_ok (a0 : Int) (a1 : Int) (x0 : Nat) (x1 : Nat) (i : Nat) : named (G a0 a1 x0 x1 i) := symL_named' (mkVals_named (by intro v hv; simp only [base, List.mem_cons, List.not_mem_nil, or_false] at hv; rcases hv with rfl | rfl | rfl | rfl <;> trivial) nam_ok) i
theorem names_ok (a0 : Int) (a1 : Int) (x0 : Nat) (x1 : Nat) (h0 : 10 ≤ x0 ∧ x0 < 100) (h1 : 100 ≤ x1 ∧ x1 < 250) : NamesOk (G a0 a1 x0 x1) (Names.ofL tab) := namesOk_parts (named_ok a0 a1 x0 x1) len_ok (TabOk.union (symTab_part (l := base a0 a1 x0 x1) rfl (kinv a0 a1 x0 x1 h0 h1) refs_ok sym_ok) (TabOk.union (tab0_ok a0 a1 x0 x1 h0 h1 ) (tab1_ok a0 a1 x0 x1 h0 h1 )))
theorem crc_ok (a0 : Int) (a1 : Int) (x0 : Nat) (x1 : Nat) : CrcOk (G a0 a1 x0 x1) crcs := crcsB_ok (l := base a0 a1 x0 x1) refs_ok crcs_ok
theorem gb0 (a0 : Int) (a1 : Int) (x0 : Nat) (x1 : Nat) : G a0 a1 x0 x1 (4096 - 4096) = .int .i64 a0 := by
  show symL (mkVals ds (base a0 a1 x0 x1)) 0 = _
  rw [symL_low ds (base a0 a1 x0 x1) 0 (by simp)]
  rfl
theorem gb1 (a0 : Int) (a1 : Int) (x0 : Nat) (x1 : Nat) : G a0 a1 x0 x1 (4097 - 4096) = .int .i64 a1 := by
  show symL (mkVals ds (base a0 a1 x0 x1)) 1 = _
  rw [symL_low ds (base a0 a1 x0 x1) 1 (by simp)]
  rfl
theorem gb2 (a0 : Int) (a1 : Int) (x0 : Nat) (x1 : Nat) : G a0 a1 x0 x1 (4098 - 4096) = .int .i64 (.ofNat x0) := by
  show symL (mkVals ds (base a0 a1 x0 x1)) 2 = _
  rw [symL_low ds (base a0 a1 x0 x1) 2 (by simp)]
  rfl
theorem gb3 (a0 : Int) (a1 : Int) (x0 : Nat) (x1 : Nat) : G a0 a1 x0 x1 (4099 - 4096) = .int .i64 (.ofNat x1) := by
  show symL (mkVals ds (base a0 a1 x0 x1)) 3 = _
  rw [symL_low ds (base a0 a1 x0 x1) 3 (by simp)]
  rfl
noncomputable def pargs0 : List Value := [.chan (some 4098)]
noncomputable def pres0 : Value := .chan (some 4102)
noncomputable def pargs1 : List Value := [.chan (some 4098)]
noncomputable def pres1 : Value := .chan (some 4102)
noncomputable def pargs2 : List Value := [.chan (some 4099)]
noncomputable def pres2 : Value := .chan (some 4132)
noncomputable def pargs3 : List Value := [.chan (some 4153)]
noncomputable def pres3 : Value := .chan (some 4154)
end Go.Proofs.YtpficieiefgbfaaGreatDoor.topfiles.d23
