/- The law TopDepends: names by classes of its inputs, their makings, their tables, and the check of these. -/
import Derived.Test.YtpficieiefgbfaaGreatDoorVG
import Derived.Test.YtpficieiefgbfaaGreatDoorTB
import Derived.KernelRfl
namespace Go.Proofs.YtpficieiefgbfaaGreatDoor.topdepends.d1
open Go Vai
set_option linter.unusedVariables false
set_option linter.unusedSimpArgs false
noncomputable def ds : List NDef := [.ent 0 (.chan (some 4097)) (.int .i64 (.ofNat 2)),
  .ent 36 (.chan (some 4098)) (.int .u8 (.ofNat 0)),
  .str [.chan (some 4099)],
  .str [.int .u8 (.ofNat 10), .int .u8 (.ofNat 0), .int .u8 (.ofNat 0), .chan (some 4099)],
  .str [.int .u8 (.ofNat 50), .int .u8 (.ofNat 47), .int .u8 (.ofNat 10), .int .u8 (.ofNat 0), .int .u8 (.ofNat 0), .chan (some 4099)],
  .idx .u8 (.chan (some 4097)) 0 [.ofNat 50, .ofNat 51, .ofNat 52, .ofNat 53, .ofNat 54, .ofNat 55, .ofNat 56, .ofNat 57],
  .str [.chan (some 4103)],
  .str [.chan (some 4103), .int .u8 (.ofNat 46), .int .u8 (.ofNat 48), .int .u8 (.ofNat 46), .int .u8 (.ofNat 48), .int .u8 (.ofNat 46), .int .u8 (.ofNat 49), .int .u8 (.ofNat 48)],
  .str [.chan (some 4103), .int .u8 (.ofNat 46), .int .u8 (.ofNat 48), .int .u8 (.ofNat 46), .int .u8 (.ofNat 48), .int .u8 (.ofNat 46), .int .u8 (.ofNat 49), .int .u8 (.ofNat 48), .int .u8 (.ofNat 46), .int .u8 (.ofNat 105), .int .u8 (.ofNat 110), .int .u8 (.ofNat 45), .int .u8 (.ofNat 97), .int .u8 (.ofNat 100), .int .u8 (.ofNat 100), .int .u8 (.ofNat 114), .int .u8 (.ofNat 46), .int .u8 (.ofNat 97), .int .u8 (.ofNat 114), .int .u8 (.ofNat 112), .int .u8 (.ofNat 97)],
  .str [.int .u8 (.ofNat 1), .chan (some 4103), .int .u8 (.ofNat 1), .int .u8 (.ofNat 48), .int .u8 (.ofNat 1), .int .u8 (.ofNat 48), .int .u8 (.ofNat 2), .int .u8 (.ofNat 49), .int .u8 (.ofNat 48), .int .u8 (.ofNat 7), .int .u8 (.ofNat 105), .int .u8 (.ofNat 110), .int .u8 (.ofNat 45), .int .u8 (.ofNat 97), .int .u8 (.ofNat 100), .int .u8 (.ofNat 100), .int .u8 (.ofNat 114), .int .u8 (.ofNat 4), .int .u8 (.ofNat 97), .int .u8 (.ofNat 114), .int .u8 (.ofNat 112), .int .u8 (.ofNat 97), .int .u8 (.ofNat 0)],
  .str [.chan (some 4103), .int .u8 (.ofNat 46)],
  .str [.chan (some 4103), .int .u8 (.ofNat 46), .int .u8 (.ofNat 48)],
  .str [.chan (some 4103), .int .u8 (.ofNat 46), .int .u8 (.ofNat 48), .int .u8 (.ofNat 46)],
  .str [.chan (some 4103), .int .u8 (.ofNat 46), .int .u8 (.ofNat 48), .int .u8 (.ofNat 46), .int .u8 (.ofNat 48)],
  .str [.chan (some 4103), .int .u8 (.ofNat 46), .int .u8 (.ofNat 48), .int .u8 (.ofNat 46), .int .u8 (.ofNat 48), .int .u8 (.ofNat 46)],
  .str [.chan (some 4103), .int .u8 (.ofNat 46), .int .u8 (.ofNat 48), .int .u8 (.ofNat 46), .int .u8 (.ofNat 48), .int .u8 (.ofNat 46), .int .u8 (.ofNat 49), .int .u8 (.ofNat 48), .int .u8 (.ofNat 46)],
  .str [.chan (some 4103), .int .u8 (.ofNat 46), .int .u8 (.ofNat 48), .int .u8 (.ofNat 46), .int .u8 (.ofNat 48), .int .u8 (.ofNat 46), .int .u8 (.ofNat 49), .int .u8 (.ofNat 48), .int .u8 (.ofNat 46), .int .u8 (.ofNat 105), .int .u8 (.ofNat 110), .int .u8 (.ofNat 45), .int .u8 (.ofNat 97), .int .u8 (.ofNat 100), .int .u8 (.ofNat 100), .int .u8 (.ofNat 114)],
  .str [.chan (some 4103), .int .u8 (.ofNat 46), .int .u8 (.ofNat 48), .int .u8 (.ofNat 46), .int .u8 (.ofNat 48), .int .u8 (.ofNat 46), .int .u8 (.ofNat 49), .int .u8 (.ofNat 48), .int .u8 (.ofNat 46), .int .u8 (.ofNat 105), .int .u8 (.ofNat 110), .int .u8 (.ofNat 45), .int .u8 (.ofNat 97), .int .u8 (.ofNat 100), .int .u8 (.ofNat 100), .int .u8 (.ofNat 114), .int .u8 (.ofNat 46)],
  .str [.int .u8 (.ofNat 1), .chan (some 4103)],
  .str [.int .u8 (.ofNat 1), .chan (some 4103), .int .u8 (.ofNat 1), .int .u8 (.ofNat 48)],
  .str [.int .u8 (.ofNat 1), .chan (some 4103), .int .u8 (.ofNat 1), .int .u8 (.ofNat 48), .int .u8 (.ofNat 1), .int .u8 (.ofNat 48)],
  .str [.int .u8 (.ofNat 1), .chan (some 4103), .int .u8 (.ofNat 1), .int .u8 (.ofNat 48), .int .u8 (.ofNat 1), .int .u8 (.ofNat 48), .int .u8 (.ofNat 2), .int .u8 (.ofNat 49), .int .u8 (.ofNat 48)],
  .str [.int .u8 (.ofNat 1), .chan (some 4103), .int .u8 (.ofNat 1), .int .u8 (.ofNat 48), .int .u8 (.ofNat 1), .int .u8 (.ofNat 48), .int .u8 (.ofNat 2), .int .u8 (.ofNat 49), .int .u8 (.ofNat 48), .int .u8 (.ofNat 7), .int .u8 (.ofNat 105), .int .u8 (.ofNat 110), .int .u8 (.ofNat 45), .int .u8 (.ofNat 97), .int .u8 (.ofNat 100), .int .u8 (.ofNat 100), .int .u8 (.ofNat 114)],
  .str [.int .u8 (.ofNat 1), .chan (some 4103), .int .u8 (.ofNat 1), .int .u8 (.ofNat 48), .int .u8 (.ofNat 1), .int .u8 (.ofNat 48), .int .u8 (.ofNat 2), .int .u8 (.ofNat 49), .int .u8 (.ofNat 48), .int .u8 (.ofNat 7), .int .u8 (.ofNat 105), .int .u8 (.ofNat 110), .int .u8 (.ofNat 45), .int .u8 (.ofNat 97), .int .u8 (.ofNat 100), .int .u8 (.ofNat 100), .int .u8 (.ofNat 114), .int .u8 (.ofNat 4), .int .u8 (.ofNat 97), .int .u8 (.ofNat 114), .int .u8 (.ofNat 112), .int .u8 (.ofNat 97)],
  .str [.int .u8 (.ofNat 47), .int .u8 (.ofNat 10), .int .u8 (.ofNat 0), .int .u8 (.ofNat 0), .chan (some 4099)],
  .crc [.int .u8 (.ofNat 1), .int .u8 (.ofNat 6), .int .u8 (.ofNat 0), .int .u8 (.ofNat 50), .int .u8 (.ofNat 47), .int .u8 (.ofNat 10), .int .u8 (.ofNat 0), .int .u8 (.ofNat 0), .chan (some 4099), .int .u8 (.ofNat 0), .int .u8 (.ofNat 0), .int .u8 (.ofNat 0), .int .u8 (.ofNat 0), .int .u8 (.ofNat 0), .int .u8 (.ofNat 0), .int .u8 (.ofNat 0), .int .u8 (.ofNat 0), .int .u8 (.ofNat 0), .int .u8 (.ofNat 0), .int .u8 (.ofNat 0), .int .u8 (.ofNat 0), .int .u8 (.ofNat 0), .int .u8 (.ofNat 0), .int .u8 (.ofNat 0), .int .u8 (.ofNat 0), .int .u8 (.ofNat 50), .int .u8 (.ofNat 0), .int .u8 (.ofNat 0), .int .u8 (.ofNat 0), .int .u8 (.ofNat 0), .int .u8 (.ofNat 0), .int .u8 (.ofNat 0), .int .u8 (.ofNat 0), .int .u8 (.ofNat 50), .int .u8 (.ofNat 0), .int .u8 (.ofNat 0), .int .u8 (.ofNat 0), .int .u8 (.ofNat 0), .int .u8 (.ofNat 0), .int .u8 (.ofNat 0), .int .u8 (.ofNat 0), .int .u8 (.ofNat 1), .int .u8 (.ofNat 3), .int .u8 (.ofNat 0), .int .u8 (.ofNat 115), .int .u8 (.ofNat 114), .int .u8 (.ofNat 118), .int .u8 (.ofNat 0), .int .u8 (.ofNat 2), .int .u8 (.ofNat 10), .int .u8 (.ofNat 0), .int .u8 (.ofNat 47), .int .u8 (.ofNat 101), .int .u8 (.ofNat 116), .int .u8 (.ofNat 99), .int .u8 (.ofNat 47), .int .u8 (.ofNat 104), .int .u8 (.ofNat 111), .int .u8 (.ofNat 115), .int .u8 (.ofNat 116), .int .u8 (.ofNat 115), .int .u8 (.ofNat 1), .int .u8 (.ofNat 0), .int .u8 (.ofNat 0), .int .u8 (.ofNat 0), .int .u8 (.ofNat 0), .int .u8 (.ofNat 0), .int .u8 (.ofNat 0), .int .u8 (.ofNat 0), .int .u8 (.ofNat 11), .int .u8 (.ofNat 0), .int .u8 (.ofNat 47), .int .u8 (.ofNat 101), .int .u8 (.ofNat 116), .int .u8 (.ofNat 99), .int .u8 (.ofNat 47), .int .u8 (.ofNat 114), .int .u8 (.ofNat 101), .int .u8 (.ofNat 115), .int .u8 (.ofNat 111), .int .u8 (.ofNat 108), .int .u8 (.ofNat 118), .int .u8 (.ofNat 2), .int .u8 (.ofNat 0), .int .u8 (.ofNat 0), .int .u8 (.ofNat 0), .int .u8 (.ofNat 0), .int .u8 (.ofNat 0), .int .u8 (.ofNat 0), .int .u8 (.ofNat 0)],
  .ent 39 (.chan (some 4123)) (.int .u8 (.ofNat 0)),
  .ent 9 (.chan (some 4124)) (.int .i64 (.ofNat 0)),
  .ent 36 (.chan (some 4125)) (.int .u8 (.ofNat 0)),
  .ent 9 (.chan (some 4124)) (.int .i64 (.ofNat 8)),
  .ent 36 (.chan (some 4127)) (.int .u8 (.ofNat 0)),
  .ent 9 (.chan (some 4124)) (.int .i64 (.ofNat 16)),
  .ent 36 (.chan (some 4129)) (.int .u8 (.ofNat 0)),
  .ent 9 (.chan (some 4124)) (.int .i64 (.ofNat 24)),
  .ent 36 (.chan (some 4131)) (.int .u8 (.ofNat 0)),
  .crc [.int .u8 (.ofNat 2), .int .u8 (.ofNat 6), .int .u8 (.ofNat 0), .int .u8 (.ofNat 50), .int .u8 (.ofNat 47), .int .u8 (.ofNat 10), .int .u8 (.ofNat 0), .int .u8 (.ofNat 0), .chan (some 4099)],
  .ent 39 (.chan (some 4133)) (.int .u8 (.ofNat 0)),
  .ent 9 (.chan (some 4134)) (.int .i64 (.ofNat 0)),
  .ent 36 (.chan (some 4135)) (.int .u8 (.ofNat 0)),
  .ent 9 (.chan (some 4134)) (.int .i64 (.ofNat 8)),
  .ent 36 (.chan (some 4137)) (.int .u8 (.ofNat 0)),
  .ent 9 (.chan (some 4134)) (.int .i64 (.ofNat 16)),
  .ent 36 (.chan (some 4139)) (.int .u8 (.ofNat 0)),
  .ent 9 (.chan (some 4134)) (.int .i64 (.ofNat 24)),
  .ent 36 (.chan (some 4141)) (.int .u8 (.ofNat 0))]
noncomputable def tabS : List NInfo := [⟨none, none, []⟩,
  ⟨none, none, [⟨0, .chan (some 4097), .int .i64 (.ofNat 2), .chan (some 4098)⟩]⟩,
  ⟨none, none, [⟨36, .chan (some 4098), .int .u8 (.ofNat 0), .chan (some 4099)⟩]⟩,
  ⟨none, none, []⟩,
  ⟨none, some [.chan (some 4099)], []⟩,
  ⟨none, some [.int .u8 (.ofNat 10), .int .u8 (.ofNat 0), .int .u8 (.ofNat 0), .chan (some 4099)], []⟩,
  ⟨none, some [.int .u8 (.ofNat 50), .int .u8 (.ofNat 47), .int .u8 (.ofNat 10), .int .u8 (.ofNat 0), .int .u8 (.ofNat 0), .chan (some 4099)], []⟩,
  ⟨none, none, []⟩,
  ⟨none, some [.chan (some 4103)], []⟩,
  ⟨none, some [.chan (some 4103), .int .u8 (.ofNat 46), .int .u8 (.ofNat 48), .int .u8 (.ofNat 46), .int .u8 (.ofNat 48), .int .u8 (.ofNat 46), .int .u8 (.ofNat 49), .int .u8 (.ofNat 48)], []⟩,
  ⟨none, some [.chan (some 4103), .int .u8 (.ofNat 46), .int .u8 (.ofNat 48), .int .u8 (.ofNat 46), .int .u8 (.ofNat 48), .int .u8 (.ofNat 46), .int .u8 (.ofNat 49), .int .u8 (.ofNat 48), .int .u8 (.ofNat 46), .int .u8 (.ofNat 105), .int .u8 (.ofNat 110), .int .u8 (.ofNat 45), .int .u8 (.ofNat 97), .int .u8 (.ofNat 100), .int .u8 (.ofNat 100), .int .u8 (.ofNat 114), .int .u8 (.ofNat 46), .int .u8 (.ofNat 97), .int .u8 (.ofNat 114), .int .u8 (.ofNat 112), .int .u8 (.ofNat 97)], []⟩,
  ⟨none, some [.int .u8 (.ofNat 1), .chan (some 4103), .int .u8 (.ofNat 1), .int .u8 (.ofNat 48), .int .u8 (.ofNat 1), .int .u8 (.ofNat 48), .int .u8 (.ofNat 2), .int .u8 (.ofNat 49), .int .u8 (.ofNat 48), .int .u8 (.ofNat 7), .int .u8 (.ofNat 105), .int .u8 (.ofNat 110), .int .u8 (.ofNat 45), .int .u8 (.ofNat 97), .int .u8 (.ofNat 100), .int .u8 (.ofNat 100), .int .u8 (.ofNat 114), .int .u8 (.ofNat 4), .int .u8 (.ofNat 97), .int .u8 (.ofNat 114), .int .u8 (.ofNat 112), .int .u8 (.ofNat 97), .int .u8 (.ofNat 0)], []⟩,
  ⟨none, some [.chan (some 4103), .int .u8 (.ofNat 46)], []⟩,
  ⟨none, some [.chan (some 4103), .int .u8 (.ofNat 46), .int .u8 (.ofNat 48)], []⟩,
  ⟨none, some [.chan (some 4103), .int .u8 (.ofNat 46), .int .u8 (.ofNat 48), .int .u8 (.ofNat 46)], []⟩,
  ⟨none, some [.chan (some 4103), .int .u8 (.ofNat 46), .int .u8 (.ofNat 48), .int .u8 (.ofNat 46), .int .u8 (.ofNat 48)], []⟩,
  ⟨none, some [.chan (some 4103), .int .u8 (.ofNat 46), .int .u8 (.ofNat 48), .int .u8 (.ofNat 46), .int .u8 (.ofNat 48), .int .u8 (.ofNat 46)], []⟩,
  ⟨none, some [.chan (some 4103), .int .u8 (.ofNat 46), .int .u8 (.ofNat 48), .int .u8 (.ofNat 46), .int .u8 (.ofNat 48), .int .u8 (.ofNat 46), .int .u8 (.ofNat 49), .int .u8 (.ofNat 48), .int .u8 (.ofNat 46)], []⟩,
  ⟨none, some [.chan (some 4103), .int .u8 (.ofNat 46), .int .u8 (.ofNat 48), .int .u8 (.ofNat 46), .int .u8 (.ofNat 48), .int .u8 (.ofNat 46), .int .u8 (.ofNat 49), .int .u8 (.ofNat 48), .int .u8 (.ofNat 46), .int .u8 (.ofNat 105), .int .u8 (.ofNat 110), .int .u8 (.ofNat 45), .int .u8 (.ofNat 97), .int .u8 (.ofNat 100), .int .u8 (.ofNat 100), .int .u8 (.ofNat 114)], []⟩,
  ⟨none, some [.chan (some 4103), .int .u8 (.ofNat 46), .int .u8 (.ofNat 48), .int .u8 (.ofNat 46), .int .u8 (.ofNat 48), .int .u8 (.ofNat 46), .int .u8 (.ofNat 49), .int .u8 (.ofNat 48), .int .u8 (.ofNat 46), .int .u8 (.ofNat 105), .int .u8 (.ofNat 110), .int .u8 (.ofNat 45), .int .u8 (.ofNat 97), .int .u8 (.ofNat 100), .int .u8 (.ofNat 100), .int .u8 (.ofNat 114), .int .u8 (.ofNat 46)], []⟩,
  ⟨none, some [.int .u8 (.ofNat 1), .chan (some 4103)], []⟩,
  ⟨none, some [.int .u8 (.ofNat 1), .chan (some 4103), .int .u8 (.ofNat 1), .int .u8 (.ofNat 48)], []⟩,
  ⟨none, some [.int .u8 (.ofNat 1), .chan (some 4103), .int .u8 (.ofNat 1), .int .u8 (.ofNat 48), .int .u8 (.ofNat 1), .int .u8 (.ofNat 48)], []⟩,
  ⟨none, some [.int .u8 (.ofNat 1), .chan (some 4103), .int .u8 (.ofNat 1), .int .u8 (.ofNat 48), .int .u8 (.ofNat 1), .int .u8 (.ofNat 48), .int .u8 (.ofNat 2), .int .u8 (.ofNat 49), .int .u8 (.ofNat 48)], []⟩,
  ⟨none, some [.int .u8 (.ofNat 1), .chan (some 4103), .int .u8 (.ofNat 1), .int .u8 (.ofNat 48), .int .u8 (.ofNat 1), .int .u8 (.ofNat 48), .int .u8 (.ofNat 2), .int .u8 (.ofNat 49), .int .u8 (.ofNat 48), .int .u8 (.ofNat 7), .int .u8 (.ofNat 105), .int .u8 (.ofNat 110), .int .u8 (.ofNat 45), .int .u8 (.ofNat 97), .int .u8 (.ofNat 100), .int .u8 (.ofNat 100), .int .u8 (.ofNat 114)], []⟩,
  ⟨none, some [.int .u8 (.ofNat 1), .chan (some 4103), .int .u8 (.ofNat 1), .int .u8 (.ofNat 48), .int .u8 (.ofNat 1), .int .u8 (.ofNat 48), .int .u8 (.ofNat 2), .int .u8 (.ofNat 49), .int .u8 (.ofNat 48), .int .u8 (.ofNat 7), .int .u8 (.ofNat 105), .int .u8 (.ofNat 110), .int .u8 (.ofNat 45), .int .u8 (.ofNat 97), .int .u8 (.ofNat 100), .int .u8 (.ofNat 100), .int .u8 (.ofNat 114), .int .u8 (.ofNat 4), .int .u8 (.ofNat 97), .int .u8 (.ofNat 114), .int .u8 (.ofNat 112), .int .u8 (.ofNat 97)], []⟩,
  ⟨none, some [.int .u8 (.ofNat 47), .int .u8 (.ofNat 10), .int .u8 (.ofNat 0), .int .u8 (.ofNat 0), .chan (some 4099)], []⟩,
  ⟨some (.u32, (.ofNat 0), (.ofNat 4294967295)), none, [⟨39, .chan (some 4123), .int .u8 (.ofNat 0), .chan (some 4124)⟩]⟩,
  ⟨some (.u64, (.ofNat 0), (.ofNat 18446744073709551615)), none, [⟨9, .chan (some 4124), .int .i64 (.ofNat 0), .chan (some 4125)⟩, ⟨9, .chan (some 4124), .int .i64 (.ofNat 8), .chan (some 4127)⟩, ⟨9, .chan (some 4124), .int .i64 (.ofNat 16), .chan (some 4129)⟩, ⟨9, .chan (some 4124), .int .i64 (.ofNat 24), .chan (some 4131)⟩]⟩,
  ⟨some (.u64, (.ofNat 0), (.ofNat 18446744073709551615)), none, [⟨36, .chan (some 4125), .int .u8 (.ofNat 0), .chan (some 4126)⟩]⟩,
  ⟨some (.u8, (.ofNat 0), (.ofNat 255)), none, []⟩,
  ⟨some (.u64, (.ofNat 0), (.ofNat 18446744073709551615)), none, [⟨36, .chan (some 4127), .int .u8 (.ofNat 0), .chan (some 4128)⟩]⟩,
  ⟨some (.u8, (.ofNat 0), (.ofNat 255)), none, []⟩,
  ⟨some (.u64, (.ofNat 0), (.ofNat 18446744073709551615)), none, [⟨36, .chan (some 4129), .int .u8 (.ofNat 0), .chan (some 4130)⟩]⟩,
  ⟨some (.u8, (.ofNat 0), (.ofNat 255)), none, []⟩,
  ⟨some (.u64, (.ofNat 0), (.ofNat 18446744073709551615)), none, [⟨36, .chan (some 4131), .int .u8 (.ofNat 0), .chan (some 4132)⟩]⟩,
  ⟨some (.u8, (.ofNat 0), (.ofNat 255)), none, []⟩,
  ⟨some (.u32, (.ofNat 0), (.ofNat 4294967295)), none, [⟨39, .chan (some 4133), .int .u8 (.ofNat 0), .chan (some 4134)⟩]⟩,
  ⟨some (.u64, (.ofNat 0), (.ofNat 18446744073709551615)), none, [⟨9, .chan (some 4134), .int .i64 (.ofNat 0), .chan (some 4135)⟩, ⟨9, .chan (some 4134), .int .i64 (.ofNat 8), .chan (some 4137)⟩, ⟨9, .chan (some 4134), .int .i64 (.ofNat 16), .chan (some 4139)⟩, ⟨9, .chan (some 4134), .int .i64 (.ofNat 24), .chan (some 4141)⟩]⟩,
  ⟨some (.u64, (.ofNat 0), (.ofNat 18446744073709551615)), none, [⟨36, .chan (some 4135), .int .u8 (.ofNat 0), .chan (some 4136)⟩]⟩,
  ⟨some (.u8, (.ofNat 0), (.ofNat 255)), none, []⟩,
  ⟨some (.u64, (.ofNat 0), (.ofNat 18446744073709551615)), none, [⟨36, .chan (some 4137), .int .u8 (.ofNat 0), .chan (some 4138)⟩]⟩,
  ⟨some (.u8, (.ofNat 0), (.ofNat 255)), none, []⟩,
  ⟨some (.u64, (.ofNat 0), (.ofNat 18446744073709551615)), none, [⟨36, .chan (some 4139), .int .u8 (.ofNat 0), .chan (some 4140)⟩]⟩,
  ⟨some (.u8, (.ofNat 0), (.ofNat 255)), none, []⟩,
  ⟨some (.u64, (.ofNat 0), (.ofNat 18446744073709551615)), none, [⟨36, .chan (some 4141), .int .u8 (.ofNat 0), .chan (some 4142)⟩]⟩,
  ⟨some (.u8, (.ofNat 0), (.ofNat 255)), none, []⟩]
noncomputable def tab0 : List NInfo := [⟨none, none, []⟩,
  ⟨some (.i64, (.ofNat 0), (.ofNat 7)), none, []⟩,
  ⟨some (.i64, (.ofNat 2), (.ofNat 9)), none, []⟩,
  ⟨some (.u8, (.ofNat 2), (.ofNat 9)), none, [⟨35, .chan (some 4099), .int .u8 (.ofNat 0), .chan (some 4098)⟩]⟩,
  ⟨none, none, []⟩,
  ⟨none, none, []⟩,
  ⟨none, none, []⟩,
  ⟨some (.u8, (.ofNat 50), (.ofNat 57)), none, [⟨6, .chan (some 4103), .int .u8 (.ofNat 32), .chan (some 4103)⟩]⟩,
  ⟨none, none, []⟩,
  ⟨none, none, []⟩,
  ⟨none, none, []⟩,
  ⟨none, none, []⟩,
  ⟨none, none, []⟩,
  ⟨none, none, []⟩,
  ⟨none, none, []⟩,
  ⟨none, none, []⟩,
  ⟨none, none, []⟩,
  ⟨none, none, []⟩,
  ⟨none, none, []⟩,
  ⟨none, none, []⟩,
  ⟨none, none, []⟩,
  ⟨none, none, []⟩,
  ⟨none, none, []⟩,
  ⟨none, none, []⟩,
  ⟨none, none, []⟩,
  ⟨none, none, []⟩,
  ⟨none, none, []⟩,
  ⟨none, none, []⟩,
  ⟨none, none, []⟩,
  ⟨none, none, []⟩,
  ⟨none, none, []⟩,
  ⟨none, none, []⟩,
  ⟨none, none, []⟩,
  ⟨none, none, []⟩,
  ⟨none, none, []⟩,
  ⟨none, none, []⟩,
  ⟨none, none, []⟩,
  ⟨none, none, []⟩,
  ⟨none, none, []⟩,
  ⟨none, none, []⟩,
  ⟨none, none, []⟩,
  ⟨none, none, []⟩,
  ⟨none, none, []⟩,
  ⟨none, none, []⟩,
  ⟨none, none, []⟩,
  ⟨none, none, []⟩,
  ⟨none, none, []⟩]
noncomputable def tab : List NInfo := (unionT tabS tab0)
noncomputable def crcs : List (List Value × Value) := [([.int .u8 (.ofNat 1), .int .u8 (.ofNat 6), .int .u8 (.ofNat 0), .int .u8 (.ofNat 50), .int .u8 (.ofNat 47), .int .u8 (.ofNat 10), .int .u8 (.ofNat 0), .int .u8 (.ofNat 0), .chan (some 4099), .int .u8 (.ofNat 0), .int .u8 (.ofNat 0), .int .u8 (.ofNat 0), .int .u8 (.ofNat 0), .int .u8 (.ofNat 0), .int .u8 (.ofNat 0), .int .u8 (.ofNat 0), .int .u8 (.ofNat 0), .int .u8 (.ofNat 0), .int .u8 (.ofNat 0), .int .u8 (.ofNat 0), .int .u8 (.ofNat 0), .int .u8 (.ofNat 0), .int .u8 (.ofNat 0), .int .u8 (.ofNat 0), .int .u8 (.ofNat 0), .int .u8 (.ofNat 50), .int .u8 (.ofNat 0), .int .u8 (.ofNat 0), .int .u8 (.ofNat 0), .int .u8 (.ofNat 0), .int .u8 (.ofNat 0), .int .u8 (.ofNat 0), .int .u8 (.ofNat 0), .int .u8 (.ofNat 50), .int .u8 (.ofNat 0), .int .u8 (.ofNat 0), .int .u8 (.ofNat 0), .int .u8 (.ofNat 0), .int .u8 (.ofNat 0), .int .u8 (.ofNat 0), .int .u8 (.ofNat 0), .int .u8 (.ofNat 1), .int .u8 (.ofNat 3), .int .u8 (.ofNat 0), .int .u8 (.ofNat 115), .int .u8 (.ofNat 114), .int .u8 (.ofNat 118), .int .u8 (.ofNat 0), .int .u8 (.ofNat 2), .int .u8 (.ofNat 10), .int .u8 (.ofNat 0), .int .u8 (.ofNat 47), .int .u8 (.ofNat 101), .int .u8 (.ofNat 116), .int .u8 (.ofNat 99), .int .u8 (.ofNat 47), .int .u8 (.ofNat 104), .int .u8 (.ofNat 111), .int .u8 (.ofNat 115), .int .u8 (.ofNat 116), .int .u8 (.ofNat 115), .int .u8 (.ofNat 1), .int .u8 (.ofNat 0), .int .u8 (.ofNat 0), .int .u8 (.ofNat 0), .int .u8 (.ofNat 0), .int .u8 (.ofNat 0), .int .u8 (.ofNat 0), .int .u8 (.ofNat 0), .int .u8 (.ofNat 11), .int .u8 (.ofNat 0), .int .u8 (.ofNat 47), .int .u8 (.ofNat 101), .int .u8 (.ofNat 116), .int .u8 (.ofNat 99), .int .u8 (.ofNat 47), .int .u8 (.ofNat 114), .int .u8 (.ofNat 101), .int .u8 (.ofNat 115), .int .u8 (.ofNat 111), .int .u8 (.ofNat 108), .int .u8 (.ofNat 118), .int .u8 (.ofNat 2), .int .u8 (.ofNat 0), .int .u8 (.ofNat 0), .int .u8 (.ofNat 0), .int .u8 (.ofNat 0), .int .u8 (.ofNat 0), .int .u8 (.ofNat 0), .int .u8 (.ofNat 0)], .chan (some 4123)),
  ([.int .u8 (.ofNat 2), .int .u8 (.ofNat 6), .int .u8 (.ofNat 0), .int .u8 (.ofNat 50), .int .u8 (.ofNat 47), .int .u8 (.ofNat 10), .int .u8 (.ofNat 0), .int .u8 (.ofNat 0), .chan (some 4099)], .chan (some 4133))]
noncomputable abbrev base (a0 : Int) (x0 : Nat) : List Value := [.int .i64 a0, .int .i64 (.ofNat x0)]
noncomputable abbrev G (a0 : Int) (x0 : Nat) : Sym := symL (mkVals ds (base a0 x0))
set_option maxRecDepth 100000 in
theorem refs_ok : refsAll ds 2 = true := by kernel_rfl
set_option maxRecDepth 100000 in
theorem nam_ok : namDs ds = true := by kernel_rfl
set_option maxRecDepth 100000 in
theorem len_ok : Nat.ble tab.length 4096 = true := by kernel_rfl
set_option maxRecDepth 100000 in
theorem crcs_ok : crcsB ds 2 crcs = true := by kernel_rfl
set_option maxRecDepth 100000 in
theorem sym_ok : symTab (ksOf ds [none, some .i64]) ds 2 tabS 0 = true := by kernel_rfl
set_option maxRecDepth 100000 in
theorem tab0_all (a0 : Int) : allB 8 (fun i0 => tabB (G a0 (0 + i0)) tab0 0) = true := by kernel_rfl
theorem tab0_ok (a0 : Int) (x0 : Nat) (h0 : 0 ≤ x0 ∧ x0 < 8) : TabOk (G a0 x0) tab0 := by
  have h := (allB_spec (tab0_all a0 ) (x0 - 0) (by omega))
  rw [show 0 + (x0 - 0) = x0 by omega] at h
  exact tabB_part h
theorem kinv (a0 : Int) (x0 : Nat) (h0 : 0 ≤ x0 ∧ x0 < 8) : KInv (symL (base a0 x0)) [none, some .i64] := by
  intro i k hi
  match i, hi with
  | 0, hi => cases hi
  | 1, hi => cases hi; exact ⟨.ofNat x0, rfl, by rw [inK_iff]; show (-9223372036854775808 : Int) ≤ (x0 : Int) ∧ (x0 : Int) ≤ 9223372036854775807; omega⟩
  | n + 2, hi => cases hi
theorem named_ok (a0 : Int) (x0 : Nat) (i : Nat) : named (G a0 x0 i) := symL_named' (mkVals_named (by intro v hv; simp only [base, List.mem_cons, List.not_mem_nil, or_false] at hv; rcases hv with rfl | rfl <;> trivial) nam_ok) i
theorem names_ok (a0 : Int) (x0 : Nat) (h0 : 0 ≤ x0 ∧ x0 < 8) : NamesOk (G a0 x0) (Names.ofL tab) := namesOk_parts (named_ok a0 x0) len_ok (TabOk.union (symTab_part (l := base a0 x0) rfl (kinv a0 x0 h0) refs_ok sym_ok) (tab0_ok a0 x0 h0 ))
theorem crc_ok (a0 : Int) (x0 : Nat) : CrcOk (G a0 x0) crcs := crcsB_ok (l := base a0 x0) refs_ok crcs_ok
theorem gb0 (a0 : Int) (x0 : Nat) : G a0 x0 (4096 - 4096) = .int .i64 a0 := by
  show symL (mkVals ds (base a0 x0)) 0 = _
  rw [symL_low ds (base a0 x0) 0 (by simp)]
  rfl
theorem gb1 (a0 : Int) (x0 : Nat) : G a0 x0 (4097 - 4096) = .int .i64 (.ofNat x0) := by
  show symL (mkVals ds (base a0 x0)) 1 = _
  rw [symL_low ds (base a0 x0) 1 (by simp)]
  rfl
noncomputable def pargs0 : List Value := [.chan (some 4098)]
noncomputable def pres0 : Value := .chan (some 4104)
end Go.Proofs.YtpficieiefgbfaaGreatDoor.topdepends.d1
namespace Go.Proofs.YtpficieiefgbfaaGreatDoor.topdepends.d2
open Go Vai
set_option linter.unusedVariables false
set_option linter.unusedSimpArgs false
noncomputable def ds : List NDef := [.ent 0 (.chan (some 4097)) (.int .i64 (.ofNat 2)),
  .ent 36 (.chan (some 4098)) (.int .u8 (.ofNat 0)),
  .str [.chan (some 4099)],
  .str [.int .u8 (.ofNat 10), .int .u8 (.ofNat 0), .int .u8 (.ofNat 0), .chan (some 4099)],
  .str [.int .u8 (.ofNat 50), .int .u8 (.ofNat 47), .int .u8 (.ofNat 10), .int .u8 (.ofNat 0), .int .u8 (.ofNat 0), .chan (some 4099)],
  .idx .u8 (.chan (some 4097)) 8 [.ofNat 49, .ofNat 49, .ofNat 49, .ofNat 49, .ofNat 49, .ofNat 49, .ofNat 49, .ofNat 49, .ofNat 49, .ofNat 49, .ofNat 50, .ofNat 50, .ofNat 50, .ofNat 50, .ofNat 50, .ofNat 50, .ofNat 50, .ofNat 50, .ofNat 50, .ofNat 50, .ofNat 51, .ofNat 51, .ofNat 51, .ofNat 51, .ofNat 51, .ofNat 51, .ofNat 51, .ofNat 51, .ofNat 51, .ofNat 51, .ofNat 52, .ofNat 52, .ofNat 52, .ofNat 52, .ofNat 52, .ofNat 52, .ofNat 52, .ofNat 52, .ofNat 52, .ofNat 52, .ofNat 53, .ofNat 53, .ofNat 53, .ofNat 53, .ofNat 53, .ofNat 53, .ofNat 53, .ofNat 53, .ofNat 53, .ofNat 53, .ofNat 54, .ofNat 54, .ofNat 54, .ofNat 54, .ofNat 54, .ofNat 54, .ofNat 54, .ofNat 54, .ofNat 54, .ofNat 54, .ofNat 55, .ofNat 55, .ofNat 55, .ofNat 55, .ofNat 55, .ofNat 55, .ofNat 55, .ofNat 55, .ofNat 55, .ofNat 55, .ofNat 56, .ofNat 56, .ofNat 56, .ofNat 56, .ofNat 56, .ofNat 56, .ofNat 56, .ofNat 56, .ofNat 56, .ofNat 56, .ofNat 57, .ofNat 57, .ofNat 57, .ofNat 57, .ofNat 57, .ofNat 57, .ofNat 57, .ofNat 57, .ofNat 57, .ofNat 57],
  .idx .u8 (.chan (some 4097)) 8 [.ofNat 48, .ofNat 49, .ofNat 50, .ofNat 51, .ofNat 52, .ofNat 53, .ofNat 54, .ofNat 55, .ofNat 56, .ofNat 57, .ofNat 48, .ofNat 49, .ofNat 50, .ofNat 51, .ofNat 52, .ofNat 53, .ofNat 54, .ofNat 55, .ofNat 56, .ofNat 57, .ofNat 48, .ofNat 49, .ofNat 50, .ofNat 51, .ofNat 52, .ofNat 53, .ofNat 54, .ofNat 55, .ofNat 56, .ofNat 57, .ofNat 48, .ofNat 49, .ofNat 50, .ofNat 51, .ofNat 52, .ofNat 53, .ofNat 54, .ofNat 55, .ofNat 56, .ofNat 57, .ofNat 48, .ofNat 49, .ofNat 50, .ofNat 51, .ofNat 52, .ofNat 53, .ofNat 54, .ofNat 55, .ofNat 56, .ofNat 57, .ofNat 48, .ofNat 49, .ofNat 50, .ofNat 51, .ofNat 52, .ofNat 53, .ofNat 54, .ofNat 55, .ofNat 56, .ofNat 57, .ofNat 48, .ofNat 49, .ofNat 50, .ofNat 51, .ofNat 52, .ofNat 53, .ofNat 54, .ofNat 55, .ofNat 56, .ofNat 57, .ofNat 48, .ofNat 49, .ofNat 50, .ofNat 51, .ofNat 52, .ofNat 53, .ofNat 54, .ofNat 55, .ofNat 56, .ofNat 57, .ofNat 48, .ofNat 49, .ofNat 50, .ofNat 51, .ofNat 52, .ofNat 53, .ofNat 54, .ofNat 55, .ofNat 56, .ofNat 57],
  .str [.chan (some 4103), .chan (some 4104)],
  .str [.chan (some 4103), .chan (some 4104), .int .u8 (.ofNat 46), .int .u8 (.ofNat 48), .int .u8 (.ofNat 46), .int .u8 (.ofNat 48), .int .u8 (.ofNat 46), .int .u8 (.ofNat 49), .int .u8 (.ofNat 48)],
  .str [.chan (some 4103), .chan (some 4104), .int .u8 (.ofNat 46), .int .u8 (.ofNat 48), .int .u8 (.ofNat 46), .int .u8 (.ofNat 48), .int .u8 (.ofNat 46), .int .u8 (.ofNat 49), .int .u8 (.ofNat 48), .int .u8 (.ofNat 46), .int .u8 (.ofNat 105), .int .u8 (.ofNat 110), .int .u8 (.ofNat 45), .int .u8 (.ofNat 97), .int .u8 (.ofNat 100), .int .u8 (.ofNat 100), .int .u8 (.ofNat 114), .int .u8 (.ofNat 46), .int .u8 (.ofNat 97), .int .u8 (.ofNat 114), .int .u8 (.ofNat 112), .int .u8 (.ofNat 97)],
  .str [.int .u8 (.ofNat 2), .chan (some 4103), .chan (some 4104), .int .u8 (.ofNat 1), .int .u8 (.ofNat 48), .int .u8 (.ofNat 1), .int .u8 (.ofNat 48), .int .u8 (.ofNat 2), .int .u8 (.ofNat 49), .int .u8 (.ofNat 48), .int .u8 (.ofNat 7), .int .u8 (.ofNat 105), .int .u8 (.ofNat 110), .int .u8 (.ofNat 45), .int .u8 (.ofNat 97), .int .u8 (.ofNat 100), .int .u8 (.ofNat 100), .int .u8 (.ofNat 114), .int .u8 (.ofNat 4), .int .u8 (.ofNat 97), .int .u8 (.ofNat 114), .int .u8 (.ofNat 112), .int .u8 (.ofNat 97), .int .u8 (.ofNat 0)],
  .str [.chan (some 4103), .chan (some 4104), .int .u8 (.ofNat 46)],
  .str [.chan (some 4103), .chan (some 4104), .int .u8 (.ofNat 46), .int .u8 (.ofNat 48)],
  .str [.chan (some 4103), .chan (some 4104), .int .u8 (.ofNat 46), .int .u8 (.ofNat 48), .int .u8 (.ofNat 46)],
  .str [.chan (some 4103), .chan (some 4104), .int .u8 (.ofNat 46), .int .u8 (.ofNat 48), .int .u8 (.ofNat 46), .int .u8 (.ofNat 48)],
  .str [.chan (some 4103), .chan (some 4104), .int .u8 (.ofNat 46), .int .u8 (.ofNat 48), .int .u8 (.ofNat 46), .int .u8 (.ofNat 48), .int .u8 (.ofNat 46)],
  .str [.chan (some 4103), .chan (some 4104), .int .u8 (.ofNat 46), .int .u8 (.ofNat 48), .int .u8 (.ofNat 46), .int .u8 (.ofNat 48), .int .u8 (.ofNat 46), .int .u8 (.ofNat 49), .int .u8 (.ofNat 48), .int .u8 (.ofNat 46)],
  .str [.chan (some 4103), .chan (some 4104), .int .u8 (.ofNat 46), .int .u8 (.ofNat 48), .int .u8 (.ofNat 46), .int .u8 (.ofNat 48), .int .u8 (.ofNat 46), .int .u8 (.ofNat 49), .int .u8 (.ofNat 48), .int .u8 (.ofNat 46), .int .u8 (.ofNat 105), .int .u8 (.ofNat 110), .int .u8 (.ofNat 45), .int .u8 (.ofNat 97), .int .u8 (.ofNat 100), .int .u8 (.ofNat 100), .int .u8 (.ofNat 114)],
  .str [.chan (some 4103), .chan (some 4104), .int .u8 (.ofNat 46), .int .u8 (.ofNat 48), .int .u8 (.ofNat 46), .int .u8 (.ofNat 48), .int .u8 (.ofNat 46), .int .u8 (.ofNat 49), .int .u8 (.ofNat 48), .int .u8 (.ofNat 46), .int .u8 (.ofNat 105), .int .u8 (.ofNat 110), .int .u8 (.ofNat 45), .int .u8 (.ofNat 97), .int .u8 (.ofNat 100), .int .u8 (.ofNat 100), .int .u8 (.ofNat 114), .int .u8 (.ofNat 46)],
  .str [.int .u8 (.ofNat 2), .chan (some 4103), .chan (some 4104)],
  .str [.int .u8 (.ofNat 2), .chan (some 4103), .chan (some 4104), .int .u8 (.ofNat 1), .int .u8 (.ofNat 48)],
  .str [.int .u8 (.ofNat 2), .chan (some 4103), .chan (some 4104), .int .u8 (.ofNat 1), .int .u8 (.ofNat 48), .int .u8 (.ofNat 1), .int .u8 (.ofNat 48)],
  .str [.int .u8 (.ofNat 2), .chan (some 4103), .chan (some 4104), .int .u8 (.ofNat 1), .int .u8 (.ofNat 48), .int .u8 (.ofNat 1), .int .u8 (.ofNat 48), .int .u8 (.ofNat 2), .int .u8 (.ofNat 49), .int .u8 (.ofNat 48)],
  .str [.int .u8 (.ofNat 2), .chan (some 4103), .chan (some 4104), .int .u8 (.ofNat 1), .int .u8 (.ofNat 48), .int .u8 (.ofNat 1), .int .u8 (.ofNat 48), .int .u8 (.ofNat 2), .int .u8 (.ofNat 49), .int .u8 (.ofNat 48), .int .u8 (.ofNat 7), .int .u8 (.ofNat 105), .int .u8 (.ofNat 110), .int .u8 (.ofNat 45), .int .u8 (.ofNat 97), .int .u8 (.ofNat 100), .int .u8 (.ofNat 100), .int .u8 (.ofNat 114)],
  .str [.int .u8 (.ofNat 2), .chan (some 4103), .chan (some 4104), .int .u8 (.ofNat 1), .int .u8 (.ofNat 48), .int .u8 (.ofNat 1), .int .u8 (.ofNat 48), .int .u8 (.ofNat 2), .int .u8 (.ofNat 49), .int .u8 (.ofNat 48), .int .u8 (.ofNat 7), .int .u8 (.ofNat 105), .int .u8 (.ofNat 110), .int .u8 (.ofNat 45), .int .u8 (.ofNat 97), .int .u8 (.ofNat 100), .int .u8 (.ofNat 100), .int .u8 (.ofNat 114), .int .u8 (.ofNat 4), .int .u8 (.ofNat 97), .int .u8 (.ofNat 114), .int .u8 (.ofNat 112), .int .u8 (.ofNat 97)],
  .str [.int .u8 (.ofNat 47), .int .u8 (.ofNat 10), .int .u8 (.ofNat 0), .int .u8 (.ofNat 0), .chan (some 4099)],
  .crc [.int .u8 (.ofNat 1), .int .u8 (.ofNat 6), .int .u8 (.ofNat 0), .int .u8 (.ofNat 50), .int .u8 (.ofNat 47), .int .u8 (.ofNat 10), .int .u8 (.ofNat 0), .int .u8 (.ofNat 0), .chan (some 4099), .int .u8 (.ofNat 0), .int .u8 (.ofNat 0), .int .u8 (.ofNat 0), .int .u8 (.ofNat 0), .int .u8 (.ofNat 0), .int .u8 (.ofNat 0), .int .u8 (.ofNat 0), .int .u8 (.ofNat 0), .int .u8 (.ofNat 0), .int .u8 (.ofNat 0), .int .u8 (.ofNat 0), .int .u8 (.ofNat 0), .int .u8 (.ofNat 0), .int .u8 (.ofNat 0), .int .u8 (.ofNat 0), .int .u8 (.ofNat 0), .int .u8 (.ofNat 50), .int .u8 (.ofNat 0), .int .u8 (.ofNat 0), .int .u8 (.ofNat 0), .int .u8 (.ofNat 0), .int .u8 (.ofNat 0), .int .u8 (.ofNat 0), .int .u8 (.ofNat 0), .int .u8 (.ofNat 50), .int .u8 (.ofNat 0), .int .u8 (.ofNat 0), .int .u8 (.ofNat 0), .int .u8 (.ofNat 0), .int .u8 (.ofNat 0), .int .u8 (.ofNat 0), .int .u8 (.ofNat 0), .int .u8 (.ofNat 1), .int .u8 (.ofNat 3), .int .u8 (.ofNat 0), .int .u8 (.ofNat 115), .int .u8 (.ofNat 114), .int .u8 (.ofNat 118), .int .u8 (.ofNat 0), .int .u8 (.ofNat 2), .int .u8 (.ofNat 10), .int .u8 (.ofNat 0), .int .u8 (.ofNat 47), .int .u8 (.ofNat 101), .int .u8 (.ofNat 116), .int .u8 (.ofNat 99), .int .u8 (.ofNat 47), .int .u8 (.ofNat 104), .int .u8 (.ofNat 111), .int .u8 (.ofNat 115), .int .u8 (.ofNat 116), .int .u8 (.ofNat 115), .int .u8 (.ofNat 1), .int .u8 (.ofNat 0), .int .u8 (.ofNat 0), .int .u8 (.ofNat 0), .int .u8 (.ofNat 0), .int .u8 (.ofNat 0), .int .u8 (.ofNat 0), .int .u8 (.ofNat 0), .int .u8 (.ofNat 11), .int .u8 (.ofNat 0), .int .u8 (.ofNat 47), .int .u8 (.ofNat 101), .int .u8 (.ofNat 116), .int .u8 (.ofNat 99), .int .u8 (.ofNat 47), .int .u8 (.ofNat 114), .int .u8 (.ofNat 101), .int .u8 (.ofNat 115), .int .u8 (.ofNat 111), .int .u8 (.ofNat 108), .int .u8 (.ofNat 118), .int .u8 (.ofNat 2), .int .u8 (.ofNat 0), .int .u8 (.ofNat 0), .int .u8 (.ofNat 0), .int .u8 (.ofNat 0), .int .u8 (.ofNat 0), .int .u8 (.ofNat 0), .int .u8 (.ofNat 0)],
  .ent 39 (.chan (some 4124)) (.int .u8 (.ofNat 0)),
  .ent 9 (.chan (some 4125)) (.int .i64 (.ofNat 0)),
  .ent 36 (.chan (some 4126)) (.int .u8 (.ofNat 0)),
  .ent 9 (.chan (some 4125)) (.int .i64 (.ofNat 8)),
  .ent 36 (.chan (some 4128)) (.int .u8 (.ofNat 0)),
  .ent 9 (.chan (some 4125)) (.int .i64 (.ofNat 16)),
  .ent 36 (.chan (some 4130)) (.int .u8 (.ofNat 0)),
  .ent 9 (.chan (some 4125)) (.int .i64 (.ofNat 24)),
  .ent 36 (.chan (some 4132)) (.int .u8 (.ofNat 0)),
  .crc [.int .u8 (.ofNat 2), .int .u8 (.ofNat 6), .int .u8 (.ofNat 0), .int .u8 (.ofNat 50), .int .u8 (.ofNat 47), .int .u8 (.ofNat 10), .int .u8 (.ofNat 0), .int .u8 (.ofNat 0), .chan (some 4099)],
  .ent 39 (.chan (some 4134)) (.int .u8 (.ofNat 0)),
  .ent 9 (.chan (some 4135)) (.int .i64 (.ofNat 0)),
  .ent 36 (.chan (some 4136)) (.int .u8 (.ofNat 0)),
  .ent 9 (.chan (some 4135)) (.int .i64 (.ofNat 8)),
  .ent 36 (.chan (some 4138)) (.int .u8 (.ofNat 0)),
  .ent 9 (.chan (some 4135)) (.int .i64 (.ofNat 16)),
  .ent 36 (.chan (some 4140)) (.int .u8 (.ofNat 0)),
  .ent 9 (.chan (some 4135)) (.int .i64 (.ofNat 24)),
  .ent 36 (.chan (some 4142)) (.int .u8 (.ofNat 0))]
noncomputable def tabS : List NInfo := [⟨none, none, []⟩,
  ⟨none, none, [⟨0, .chan (some 4097), .int .i64 (.ofNat 2), .chan (some 4098)⟩]⟩,
  ⟨none, none, [⟨36, .chan (some 4098), .int .u8 (.ofNat 0), .chan (some 4099)⟩]⟩,
  ⟨none, none, []⟩,
  ⟨none, some [.chan (some 4099)], []⟩,
  ⟨none, some [.int .u8 (.ofNat 10), .int .u8 (.ofNat 0), .int .u8 (.ofNat 0), .chan (some 4099)], []⟩,
  ⟨none, some [.int .u8 (.ofNat 50), .int .u8 (.ofNat 47), .int .u8 (.ofNat 10), .int .u8 (.ofNat 0), .int .u8 (.ofNat 0), .chan (some 4099)], []⟩,
  ⟨none, none, []⟩,
  ⟨none, none, []⟩,
  ⟨none, some [.chan (some 4103), .chan (some 4104)], []⟩,
  ⟨none, some [.chan (some 4103), .chan (some 4104), .int .u8 (.ofNat 46), .int .u8 (.ofNat 48), .int .u8 (.ofNat 46), .int .u8 (.ofNat 48), .int .u8 (.ofNat 46), .int .u8 (.ofNat 49), .int .u8 (.ofNat 48)], []⟩,
  ⟨none, some [.chan (some 4103), .chan (some 4104), .int .u8 (.ofNat 46), .int .u8 (.ofNat 48), .int .u8 (.ofNat 46), .int .u8 (.ofNat 48), .int .u8 (.ofNat 46), .int .u8 (.ofNat 49), .int .u8 (.ofNat 48), .int .u8 (.ofNat 46), .int .u8 (.ofNat 105), .int .u8 (.ofNat 110), .int .u8 (.ofNat 45), .int .u8 (.ofNat 97), .int .u8 (.ofNat 100), .int .u8 (.ofNat 100), .int .u8 (.ofNat 114), .int .u8 (.ofNat 46), .int .u8 (.ofNat 97), .int .u8 (.ofNat 114), .int .u8 (.ofNat 112), .int .u8 (.ofNat 97)], []⟩,
  ⟨none, some [.int .u8 (.ofNat 2), .chan (some 4103), .chan (some 4104), .int .u8 (.ofNat 1), .int .u8 (.ofNat 48), .int .u8 (.ofNat 1), .int .u8 (.ofNat 48), .int .u8 (.ofNat 2), .int .u8 (.ofNat 49), .int .u8 (.ofNat 48), .int .u8 (.ofNat 7), .int .u8 (.ofNat 105), .int .u8 (.ofNat 110), .int .u8 (.ofNat 45), .int .u8 (.ofNat 97), .int .u8 (.ofNat 100), .int .u8 (.ofNat 100), .int .u8 (.ofNat 114), .int .u8 (.ofNat 4), .int .u8 (.ofNat 97), .int .u8 (.ofNat 114), .int .u8 (.ofNat 112), .int .u8 (.ofNat 97), .int .u8 (.ofNat 0)], []⟩,
  ⟨none, some [.chan (some 4103), .chan (some 4104), .int .u8 (.ofNat 46)], []⟩,
  ⟨none, some [.chan (some 4103), .chan (some 4104), .int .u8 (.ofNat 46), .int .u8 (.ofNat 48)], []⟩,
  ⟨none, some [.chan (some 4103), .chan (some 4104), .int .u8 (.ofNat 46), .int .u8 (.ofNat 48), .int .u8 (.ofNat 46)], []⟩,
  ⟨none, some [.chan (some 4103), .chan (some 4104), .int .u8 (.ofNat 46), .int .u8 (.ofNat 48), .int .u8 (.ofNat 46), .int .u8 (.ofNat 48)], []⟩,
  ⟨none, some [.chan (some 4103), .chan (some 4104), .int .u8 (.ofNat 46), .int .u8 (.ofNat 48), .int .u8 (.ofNat 46), .int .u8 (.ofNat 48), .int .u8 (.ofNat 46)], []⟩,
  ⟨none, some [.chan (some 4103), .chan (some 4104), .int .u8 (.ofNat 46), .int .u8 (.ofNat 48), .int .u8 (.ofNat 46), .int .u8 (.ofNat 48), .int .u8 (.ofNat 46), .int .u8 (.ofNat 49), .int .u8 (.ofNat 48), .int .u8 (.ofNat 46)], []⟩,
  ⟨none, some [.chan (some 4103), .chan (some 4104), .int .u8 (.ofNat 46), .int .u8 (.ofNat 48), .int .u8 (.ofNat 46), .int .u8 (.ofNat 48), .int .u8 (.ofNat 46), .int .u8 (.ofNat 49), .int .u8 (.ofNat 48), .int .u8 (.ofNat 46), .int .u8 (.ofNat 105), .int .u8 (.ofNat 110), .int .u8 (.ofNat 45), .int .u8 (.ofNat 97), .int .u8 (.ofNat 100), .int .u8 (.ofNat 100), .int .u8 (.ofNat 114)], []⟩,
  ⟨none, some [.chan (some 4103), .chan (some 4104), .int .u8 (.ofNat 46), .int .u8 (.ofNat 48), .int .u8 (.ofNat 46), .int .u8 (.ofNat 48), .int .u8 (.ofNat 46), .int .u8 (.ofNat 49), .int .u8 (.ofNat 48), .int .u8 (.ofNat 46), .int .u8 (.ofNat 105), .int .u8 (.ofNat 110), .int .u8 (.ofNat 45), .int .u8 (.ofNat 97), .int .u8 (.ofNat 100), .int .u8 (.ofNat 100), .int .u8 (.ofNat 114), .int .u8 (.ofNat 46)], []⟩,
  ⟨none, some [.int .u8 (.ofNat 2), .chan (some 4103), .chan (some 4104)], []⟩,
  ⟨none, some [.int .u8 (.ofNat 2), .chan (some 4103), .chan (some 4104), .int .u8 (.ofNat 1), .int .u8 (.ofNat 48)], []⟩,
  ⟨none, some [.int .u8 (.ofNat 2), .chan (some 4103), .chan (some 4104), .int .u8 (.ofNat 1), .int .u8 (.ofNat 48), .int .u8 (.ofNat 1), .int .u8 (.ofNat 48)], []⟩,
  ⟨none, some [.int .u8 (.ofNat 2), .chan (some 4103), .chan (some 4104), .int .u8 (.ofNat 1), .int .u8 (.ofNat 48), .int .u8 (.ofNat 1), .int .u8 (.ofNat 48), .int .u8 (.ofNat 2), .int .u8 (.ofNat 49), .int .u8 (.ofNat 48)], []⟩,
  ⟨none, some [.int .u8 (.ofNat 2), .chan (some 4103), .chan (some 4104), .int .u8 (.ofNat 1), .int .u8 (.ofNat 48), .int .u8 (.ofNat 1), .int .u8 (.ofNat 48), .int .u8 (.ofNat 2), .int .u8 (.ofNat 49), .int .u8 (.ofNat 48), .int .u8 (.ofNat 7), .int .u8 (.ofNat 105), .int .u8 (.ofNat 110), .int .u8 (.ofNat 45), .int .u8 (.ofNat 97), .int .u8 (.ofNat 100), .int .u8 (.ofNat 100), .int .u8 (.ofNat 114)], []⟩,
  ⟨none, some [.int .u8 (.ofNat 2), .chan (some 4103), .chan (some 4104), .int .u8 (.ofNat 1), .int .u8 (.ofNat 48), .int .u8 (.ofNat 1), .int .u8 (.ofNat 48), .int .u8 (.ofNat 2), .int .u8 (.ofNat 49), .int .u8 (.ofNat 48), .int .u8 (.ofNat 7), .int .u8 (.ofNat 105), .int .u8 (.ofNat 110), .int .u8 (.ofNat 45), .int .u8 (.ofNat 97), .int .u8 (.ofNat 100), .int .u8 (.ofNat 100), .int .u8 (.ofNat 114), .int .u8 (.ofNat 4), .int .u8 (.ofNat 97), .int .u8 (.ofNat 114), .int .u8 (.ofNat 112), .int .u8 (.ofNat 97)], []⟩,
  ⟨none, some [.int .u8 (.ofNat 47), .int .u8 (.ofNat 10), .int .u8 (.ofNat 0), .int .u8 (.ofNat 0), .chan (some 4099)], []⟩,
  ⟨some (.u32, (.ofNat 0), (.ofNat 4294967295)), none, [⟨39, .chan (some 4124), .int .u8 (.ofNat 0), .chan (some 4125)⟩]⟩,
  ⟨some (.u64, (.ofNat 0), (.ofNat 18446744073709551615)), none, [⟨9, .chan (some 4125), .int .i64 (.ofNat 0), .chan (some 4126)⟩, ⟨9, .chan (some 4125), .int .i64 (.ofNat 8), .chan (some 4128)⟩, ⟨9, .chan (some 4125), .int .i64 (.ofNat 16), .chan (some 4130)⟩, ⟨9, .chan (some 4125), .int .i64 (.ofNat 24), .chan (some 4132)⟩]⟩,
  ⟨some (.u64, (.ofNat 0), (.ofNat 18446744073709551615)), none, [⟨36, .chan (some 4126), .int .u8 (.ofNat 0), .chan (some 4127)⟩]⟩,
  ⟨some (.u8, (.ofNat 0), (.ofNat 255)), none, []⟩,
  ⟨some (.u64, (.ofNat 0), (.ofNat 18446744073709551615)), none, [⟨36, .chan (some 4128), .int .u8 (.ofNat 0), .chan (some 4129)⟩]⟩,
  ⟨some (.u8, (.ofNat 0), (.ofNat 255)), none, []⟩,
  ⟨some (.u64, (.ofNat 0), (.ofNat 18446744073709551615)), none, [⟨36, .chan (some 4130), .int .u8 (.ofNat 0), .chan (some 4131)⟩]⟩,
  ⟨some (.u8, (.ofNat 0), (.ofNat 255)), none, []⟩,
  ⟨some (.u64, (.ofNat 0), (.ofNat 18446744073709551615)), none, [⟨36, .chan (some 4132), .int .u8 (.ofNat 0), .chan (some 4133)⟩]⟩,
  ⟨some (.u8, (.ofNat 0), (.ofNat 255)), none, []⟩,
  ⟨some (.u32, (.ofNat 0), (.ofNat 4294967295)), none, [⟨39, .chan (some 4134), .int .u8 (.ofNat 0), .chan (some 4135)⟩]⟩,
  ⟨some (.u64, (.ofNat 0), (.ofNat 18446744073709551615)), none, [⟨9, .chan (some 4135), .int .i64 (.ofNat 0), .chan (some 4136)⟩, ⟨9, .chan (some 4135), .int .i64 (.ofNat 8), .chan (some 4138)⟩, ⟨9, .chan (some 4135), .int .i64 (.ofNat 16), .chan (some 4140)⟩, ⟨9, .chan (some 4135), .int .i64 (.ofNat 24), .chan (some 4142)⟩]⟩,
  ⟨some (.u64, (.ofNat 0), (.ofNat 18446744073709551615)), none, [⟨36, .chan (some 4136), .int .u8 (.ofNat 0), .chan (some 4137)⟩]⟩,
  ⟨some (.u8, (.ofNat 0), (.ofNat 255)), none, []⟩,
  ⟨some (.u64, (.ofNat 0), (.ofNat 18446744073709551615)), none, [⟨36, .chan (some 4138), .int .u8 (.ofNat 0), .chan (some 4139)⟩]⟩,
  ⟨some (.u8, (.ofNat 0), (.ofNat 255)), none, []⟩,
  ⟨some (.u64, (.ofNat 0), (.ofNat 18446744073709551615)), none, [⟨36, .chan (some 4140), .int .u8 (.ofNat 0), .chan (some 4141)⟩]⟩,
  ⟨some (.u8, (.ofNat 0), (.ofNat 255)), none, []⟩,
  ⟨some (.u64, (.ofNat 0), (.ofNat 18446744073709551615)), none, [⟨36, .chan (some 4142), .int .u8 (.ofNat 0), .chan (some 4143)⟩]⟩,
  ⟨some (.u8, (.ofNat 0), (.ofNat 255)), none, []⟩]
noncomputable def tab0 : List NInfo := [⟨none, none, []⟩,
  ⟨some (.i64, (.ofNat 8), (.ofNat 97)), none, []⟩,
  ⟨some (.i64, (.ofNat 10), (.ofNat 99)), none, []⟩,
  ⟨some (.u8, (.ofNat 10), (.ofNat 99)), none, [⟨35, .chan (some 4099), .int .u8 (.ofNat 0), .chan (some 4098)⟩]⟩,
  ⟨none, none, []⟩,
  ⟨none, none, []⟩,
  ⟨none, none, []⟩,
  ⟨some (.u8, (.ofNat 49), (.ofNat 57)), none, [⟨6, .chan (some 4103), .int .u8 (.ofNat 32), .chan (some 4103)⟩]⟩,
  ⟨some (.u8, (.ofNat 48), (.ofNat 57)), none, [⟨6, .chan (some 4104), .int .u8 (.ofNat 32), .chan (some 4104)⟩]⟩,
  ⟨none, none, []⟩,
  ⟨none, none, []⟩,
  ⟨none, none, []⟩,
  ⟨none, none, []⟩,
  ⟨none, none, []⟩,
  ⟨none, none, []⟩,
  ⟨none, none, []⟩,
  ⟨none, none, []⟩,
  ⟨none, none, []⟩,
  ⟨none, none, []⟩,
  ⟨none, none, []⟩,
  ⟨none, none, []⟩,
  ⟨none, none, []⟩,
  ⟨none, none, []⟩,
  ⟨none, none, []⟩,
  ⟨none, none, []⟩,
  ⟨none, none, []⟩,
  ⟨none, none, []⟩,
  ⟨none, none, []⟩,
  ⟨none, none, []⟩,
  ⟨none, none, []⟩,
  ⟨none, none, []⟩,
  ⟨none, none, []⟩,
  ⟨none, none, []⟩,
  ⟨none, none, []⟩,
  ⟨none, none, []⟩,
  ⟨none, none, []⟩,
  ⟨none, none, []⟩,
  ⟨none, none, []⟩,
  ⟨none, none, []⟩,
  ⟨none, none, []⟩,
  ⟨none, none, []⟩,
  ⟨none, none, []⟩,
  ⟨none, none, []⟩,
  ⟨none, none, []⟩,
  ⟨none, none, []⟩,
  ⟨none, none, []⟩,
  ⟨none, none, []⟩,
  ⟨none, none, []⟩]
noncomputable def tab : List NInfo := (unionT tabS tab0)
noncomputable def crcs : List (List Value × Value) := [([.int .u8 (.ofNat 1), .int .u8 (.ofNat 6), .int .u8 (.ofNat 0), .int .u8 (.ofNat 50), .int .u8 (.ofNat 47), .int .u8 (.ofNat 10), .int .u8 (.ofNat 0), .int .u8 (.ofNat 0), .chan (some 4099), .int .u8 (.ofNat 0), .int .u8 (.ofNat 0), .int .u8 (.ofNat 0), .int .u8 (.ofNat 0), .int .u8 (.ofNat 0), .int .u8 (.ofNat 0), .int .u8 (.ofNat 0), .int .u8 (.ofNat 0), .int .u8 (.ofNat 0), .int .u8 (.ofNat 0), .int .u8 (.ofNat 0), .int .u8 (.ofNat 0), .int .u8 (.ofNat 0), .int .u8 (.ofNat 0), .int .u8 (.ofNat 0), .int .u8 (.ofNat 0), .int .u8 (.ofNat 50), .int .u8 (.ofNat 0), .int .u8 (.ofNat 0), .int .u8 (.ofNat 0), .int .u8 (.ofNat 0), .int .u8 (.ofNat 0), .int .u8 (.ofNat 0), .int .u8 (.ofNat 0), .int .u8 (.ofNat 50), .int .u8 (.ofNat 0), .int .u8 (.ofNat 0), .int .u8 (.ofNat 0), .int .u8 (.ofNat 0), .int .u8 (.ofNat 0), .int .u8 (.ofNat 0), .int .u8 (.ofNat 0), .int .u8 (.ofNat 1), .int .u8 (.ofNat 3), .int .u8 (.ofNat 0), .int .u8 (.ofNat 115), .int .u8 (.ofNat 114), .int .u8 (.ofNat 118), .int .u8 (.ofNat 0), .int .u8 (.ofNat 2), .int .u8 (.ofNat 10), .int .u8 (.ofNat 0), .int .u8 (.ofNat 47), .int .u8 (.ofNat 101), .int .u8 (.ofNat 116), .int .u8 (.ofNat 99), .int .u8 (.ofNat 47), .int .u8 (.ofNat 104), .int .u8 (.ofNat 111), .int .u8 (.ofNat 115), .int .u8 (.ofNat 116), .int .u8 (.ofNat 115), .int .u8 (.ofNat 1), .int .u8 (.ofNat 0), .int .u8 (.ofNat 0), .int .u8 (.ofNat 0), .int .u8 (.ofNat 0), .int .u8 (.ofNat 0), .int .u8 (.ofNat 0), .int .u8 (.ofNat 0), .int .u8 (.ofNat 11), .int .u8 (.ofNat 0), .int .u8 (.ofNat 47), .int .u8 (.ofNat 101), .int .u8 (.ofNat 116), .int .u8 (.ofNat 99), .int .u8 (.ofNat 47), .int .u8 (.ofNat 114), .int .u8 (.ofNat 101), .int .u8 (.ofNat 115), .int .u8 (.ofNat 111), .int .u8 (.ofNat 108), .int .u8 (.ofNat 118), .int .u8 (.ofNat 2), .int .u8 (.ofNat 0), .int .u8 (.ofNat 0), .int .u8 (.ofNat 0), .int .u8 (.ofNat 0), .int .u8 (.ofNat 0), .int .u8 (.ofNat 0), .int .u8 (.ofNat 0)], .chan (some 4124)),
  ([.int .u8 (.ofNat 2), .int .u8 (.ofNat 6), .int .u8 (.ofNat 0), .int .u8 (.ofNat 50), .int .u8 (.ofNat 47), .int .u8 (.ofNat 10), .int .u8 (.ofNat 0), .int .u8 (.ofNat 0), .chan (some 4099)], .chan (some 4134))]
noncomputable abbrev base (a0 : Int) (x0 : Nat) : List Value := [.int .i64 a0, .int .i64 (.ofNat x0)]
noncomputable abbrev G (a0 : Int) (x0 : Nat) : Sym := symL (mkVals ds (base a0 x0))
set_option maxRecDepth 100000 in
theorem refs_ok : refsAll ds 2 = true := by kernel_rfl
set_option maxRecDepth 100000 in
theorem nam_ok : namDs ds = true := by kernel_rfl
set_option maxRecDepth 100000 in
theorem len_ok : Nat.ble tab.length 4096 = true := by kernel_rfl
set_option maxRecDepth 100000 in
theorem crcs_ok : crcsB ds 2 crcs = true := by kernel_rfl
set_option maxRecDepth 100000 in
theorem sym_ok : symTab (ksOf ds [none, some .i64]) ds 2 tabS 0 = true := by kernel_rfl
set_option maxRecDepth 100000 in
theorem tab0_all (a0 : Int) : allB 90 (fun i0 => tabB (G a0 (8 + i0)) tab0 0) = true := by kernel_rfl
theorem tab0_ok (a0 : Int) (x0 : Nat) (h0 : 8 ≤ x0 ∧ x0 < 98) : TabOk (G a0 x0) tab0 := by
  have h := (allB_spec (tab0_all a0 ) (x0 - 8) (by omega))
  rw [show 8 + (x0 - 8) = x0 by omega] at h
  exact tabB_part h
theorem kinv (a0 : Int) (x0 : Nat) (h0 : 8 ≤ x0 ∧ x0 < 98) : KInv (symL (base a0 x0)) [none, some .i64] := by
  intro i k hi
  match i, hi with
  | 0, hi => cases hi
  | 1, hi => cases hi; exact ⟨.ofNat x0, rfl, by rw [inK_iff]; show (-9223372036854775808 : Int) ≤ (x0 : Int) ∧ (x0 : Int) ≤ 9223372036854775807; omega⟩
  | n + 2, hi => cases hi
theorem named_ok (a0 : Int) (x0 : Nat) (i : Nat) : named (G a0 x0 i) := symL_named' (mkVals_named (by intro v hv; simp only [base, List.mem_cons, List.not_mem_nil, or_false] at hv; rcases hv with rfl | rfl <;> trivial) nam_ok) i
theorem names_ok (a0 : Int) (x0 : Nat) (h0 : 8 ≤ x0 ∧ x0 < 98) : NamesOk (G a0 x0) (Names.ofL tab) := namesOk_parts (named_ok a0 x0) len_ok (TabOk.union (symTab_part (l := base a0 x0) rfl (kinv a0 x0 h0) refs_ok sym_ok) (tab0_ok a0 x0 h0 ))
theorem crc_ok (a0 : Int) (x0 : Nat) : CrcOk (G a0 x0) crcs := crcsB_ok (l := base a0 x0) refs_ok crcs_ok
theorem gb0 (a0 : Int) (x0 : Nat) : G a0 x0 (4096 - 4096) = .int .i64 a0 := by
  show symL (mkVals ds (base a0 x0)) 0 = _
  rw [symL_low ds (base a0 x0) 0 (by simp)]
  rfl
theorem gb1 (a0 : Int) (x0 : Nat) : G a0 x0 (4097 - 4096) = .int .i64 (.ofNat x0) := by
  show symL (mkVals ds (base a0 x0)) 1 = _
  rw [symL_low ds (base a0 x0) 1 (by simp)]
  rfl
noncomputable def pargs0 : List Value := [.chan (some 4098)]
noncomputable def pres0 : Value := .chan (some 4105)
end Go.Proofs.YtpficieiefgbfaaGreatDoor.topdepends.d2
namespace Go.Proofs.YtpficieiefgbfaaGreatDoor.topdepends.d3
open Go Vai
set_option linter.unusedVariables false
set_option linter.unusedSimpArgs false
noncomputable def ds : List NDef := [.ent 0 (.chan (some 4097)) (.int .i64 (.ofNat 2)),
  .ent 36 (.chan (some 4098)) (.int .u8 (.ofNat 0)),
  .str [.chan (some 4099)],
  .str [.int .u8 (.ofNat 10), .int .u8 (.ofNat 0), .int .u8 (.ofNat 0), .chan (some 4099)],
  .str [.int .u8 (.ofNat 50), .int .u8 (.ofNat 47), .int .u8 (.ofNat 10), .int .u8 (.ofNat 0), .int .u8 (.ofNat 0), .chan (some 4099)],
  .ent 39 (.chan (some 4098)) (.int .u8 (.ofNat 0)),
  .idx .i64 (.chan (some 4097)) 98 [.ofNat 7, .ofNat 7, .ofNat 7, .ofNat 7, .ofNat 7, .ofNat 7, .ofNat 7, .ofNat 7, .ofNat 7, .ofNat 7, .ofNat 7, .ofNat 7, .ofNat 7, .ofNat 7, .ofNat 7, .ofNat 7, .ofNat 7, .ofNat 7, .ofNat 7, .ofNat 7, .ofNat 7, .ofNat 7, .ofNat 7, .ofNat 7, .ofNat 7, .ofNat 7, .ofNat 7, .ofNat 7, .ofNat 8, .ofNat 8, .ofNat 8, .ofNat 8, .ofNat 8, .ofNat 8, .ofNat 8, .ofNat 8, .ofNat 8, .ofNat 8, .ofNat 8, .ofNat 8, .ofNat 8, .ofNat 8, .ofNat 8, .ofNat 8, .ofNat 8, .ofNat 8, .ofNat 8, .ofNat 8, .ofNat 8, .ofNat 8, .ofNat 8, .ofNat 8, .ofNat 8, .ofNat 8, .ofNat 8, .ofNat 8, .ofNat 8, .ofNat 8, .ofNat 8, .ofNat 8, .ofNat 8, .ofNat 8, .ofNat 8, .ofNat 8, .ofNat 8, .ofNat 8, .ofNat 8, .ofNat 8, .ofNat 8, .ofNat 8, .ofNat 8, .ofNat 8, .ofNat 8, .ofNat 8, .ofNat 8, .ofNat 8, .ofNat 8, .ofNat 8, .ofNat 8, .ofNat 8, .ofNat 8, .ofNat 8, .ofNat 8, .ofNat 8, .ofNat 8, .ofNat 8, .ofNat 8, .ofNat 8, .ofNat 8, .ofNat 8, .ofNat 8, .ofNat 8, .ofNat 8, .ofNat 8, .ofNat 8, .ofNat 8, .ofNat 8, .ofNat 8, .ofNat 8, .ofNat 8, .ofNat 8, .ofNat 8, .ofNat 8, .ofNat 8, .ofNat 8, .ofNat 8, .ofNat 8, .ofNat 8, .ofNat 8, .ofNat 8, .ofNat 8, .ofNat 8, .ofNat 8, .ofNat 8, .ofNat 8, .ofNat 8, .ofNat 8, .ofNat 8, .ofNat 8, .ofNat 8, .ofNat 8, .ofNat 8, .ofNat 8, .ofNat 8, .ofNat 8, .ofNat 8, .ofNat 8, .ofNat 8, .ofNat 8, .ofNat 8, .ofNat 8, .ofNat 8, .ofNat 8, .ofNat 8, .ofNat 8, .ofNat 8, .ofNat 8, .ofNat 8, .ofNat 8, .ofNat 8, .ofNat 8, .ofNat 8, .ofNat 8, .ofNat 8, .ofNat 8, .ofNat 8, .ofNat 8, .ofNat 8, .ofNat 8, .ofNat 8, .ofNat 8, .ofNat 8],
  .ent 2 (.chan (some 4104)) (.int .i64 (.ofNat 78913)),
  .ent 38 (.chan (some 4103)) (.int .u8 (.ofNat 0)),
  .ent 4 (.chan (some 4106)) (.int .u32 (.ofNat 100)),
  .ent 2 (.chan (some 4107)) (.int .u32 (.ofNat 2)),
  .ent 3 (.chan (some 4106)) (.int .u32 (.ofNat 100)),
  .ent 0 (.chan (some 4108)) (.int .u32 (.ofNat 1)),
  .ent 70 (.chan (some 4110)) (.string ⟨⟨[48, 48, 48, 49, 48, 50, 48, 51, 48, 52, 48, 53, 48, 54, 48, 55, 48, 56, 48, 57, 49, 48, 49, 49, 49, 50, 49, 51, 49, 52, 49, 53, 49, 54, 49, 55, 49, 56, 49, 57, 50, 48, 50, 49, 50, 50, 50, 51, 50, 52, 50, 53, 50, 54, 50, 55, 50, 56, 50, 57, 51, 48, 51, 49, 51, 50, 51, 51, 51, 52, 51, 53, 51, 54, 51, 55, 51, 56, 51, 57, 52, 48, 52, 49, 52, 50, 52, 51, 52, 52, 52, 53, 52, 54, 52, 55, 52, 56, 52, 57, 53, 48, 53, 49, 53, 50, 53, 51, 53, 52, 53, 53, 53, 54, 53, 55, 53, 56, 53, 57, 54, 48, 54, 49, 54, 50, 54, 51, 54, 52, 54, 53, 54, 54, 54, 55, 54, 56, 54, 57, 55, 48, 55, 49, 55, 50, 55, 51, 55, 52, 55, 53, 55, 54, 55, 55, 55, 56, 55, 57, 56, 48, 56, 49, 56, 50, 56, 51, 56, 52, 56, 53, 56, 54, 56, 55, 56, 56, 56, 57, 57, 48, 57, 49, 57, 50, 57, 51, 57, 52, 57, 53, 57, 54, 57, 55, 57, 56, 57, 57]⟩⟩),
  .ent 70 (.chan (some 4108)) (.string ⟨⟨[48, 48, 48, 49, 48, 50, 48, 51, 48, 52, 48, 53, 48, 54, 48, 55, 48, 56, 48, 57, 49, 48, 49, 49, 49, 50, 49, 51, 49, 52, 49, 53, 49, 54, 49, 55, 49, 56, 49, 57, 50, 48, 50, 49, 50, 50, 50, 51, 50, 52, 50, 53, 50, 54, 50, 55, 50, 56, 50, 57, 51, 48, 51, 49, 51, 50, 51, 51, 51, 52, 51, 53, 51, 54, 51, 55, 51, 56, 51, 57, 52, 48, 52, 49, 52, 50, 52, 51, 52, 52, 52, 53, 52, 54, 52, 55, 52, 56, 52, 57, 53, 48, 53, 49, 53, 50, 53, 51, 53, 52, 53, 53, 53, 54, 53, 55, 53, 56, 53, 57, 54, 48, 54, 49, 54, 50, 54, 51, 54, 52, 54, 53, 54, 54, 54, 55, 54, 56, 54, 57, 55, 48, 55, 49, 55, 50, 55, 51, 55, 52, 55, 53, 55, 54, 55, 55, 55, 56, 55, 57, 56, 48, 56, 49, 56, 50, 56, 51, 56, 52, 56, 53, 56, 54, 56, 55, 56, 56, 56, 57, 57, 48, 57, 49, 57, 50, 57, 51, 57, 52, 57, 53, 57, 54, 57, 55, 57, 56, 57, 57]⟩⟩),
  .ent 0 (.int .u32 (.ofNat 48)) (.chan (some 4109)),
  .ent 36 (.chan (some 4113)) (.int .u8 (.ofNat 0)),
  .str [.chan (some 4114), .chan (some 4112), .chan (some 4111)],
  .str [.chan (some 4114), .chan (some 4112), .chan (some 4111), .int .u8 (.ofNat 46), .int .u8 (.ofNat 48), .int .u8 (.ofNat 46), .int .u8 (.ofNat 48), .int .u8 (.ofNat 46), .int .u8 (.ofNat 49), .int .u8 (.ofNat 48)],
  .str [.chan (some 4114), .chan (some 4112), .chan (some 4111), .int .u8 (.ofNat 46), .int .u8 (.ofNat 48), .int .u8 (.ofNat 46), .int .u8 (.ofNat 48), .int .u8 (.ofNat 46), .int .u8 (.ofNat 49), .int .u8 (.ofNat 48), .int .u8 (.ofNat 46), .int .u8 (.ofNat 105), .int .u8 (.ofNat 110), .int .u8 (.ofNat 45), .int .u8 (.ofNat 97), .int .u8 (.ofNat 100), .int .u8 (.ofNat 100), .int .u8 (.ofNat 114), .int .u8 (.ofNat 46), .int .u8 (.ofNat 97), .int .u8 (.ofNat 114), .int .u8 (.ofNat 112), .int .u8 (.ofNat 97)],
  .str [.int .u8 (.ofNat 3), .chan (some 4114), .chan (some 4112), .chan (some 4111), .int .u8 (.ofNat 1), .int .u8 (.ofNat 48), .int .u8 (.ofNat 1), .int .u8 (.ofNat 48), .int .u8 (.ofNat 2), .int .u8 (.ofNat 49), .int .u8 (.ofNat 48), .int .u8 (.ofNat 7), .int .u8 (.ofNat 105), .int .u8 (.ofNat 110), .int .u8 (.ofNat 45), .int .u8 (.ofNat 97), .int .u8 (.ofNat 100), .int .u8 (.ofNat 100), .int .u8 (.ofNat 114), .int .u8 (.ofNat 4), .int .u8 (.ofNat 97), .int .u8 (.ofNat 114), .int .u8 (.ofNat 112), .int .u8 (.ofNat 97), .int .u8 (.ofNat 0)],
  .str [.chan (some 4114), .chan (some 4112), .chan (some 4111), .int .u8 (.ofNat 46)],
  .str [.chan (some 4114), .chan (some 4112), .chan (some 4111), .int .u8 (.ofNat 46), .int .u8 (.ofNat 48)],
  .str [.chan (some 4114), .chan (some 4112), .chan (some 4111), .int .u8 (.ofNat 46), .int .u8 (.ofNat 48), .int .u8 (.ofNat 46)],
  .str [.chan (some 4114), .chan (some 4112), .chan (some 4111), .int .u8 (.ofNat 46), .int .u8 (.ofNat 48), .int .u8 (.ofNat 46), .int .u8 (.ofNat 48)],
  .str [.chan (some 4114), .chan (some 4112), .chan (some 4111), .int .u8 (.ofNat 46), .int .u8 (.ofNat 48), .int .u8 (.ofNat 46), .int .u8 (.ofNat 48), .int .u8 (.ofNat 46)],
  .str [.chan (some 4114), .chan (some 4112), .chan (some 4111), .int .u8 (.ofNat 46), .int .u8 (.ofNat 48), .int .u8 (.ofNat 46), .int .u8 (.ofNat 48), .int .u8 (.ofNat 46), .int .u8 (.ofNat 49), .int .u8 (.ofNat 48), .int .u8 (.ofNat 46)],
  .str [.chan (some 4114), .chan (some 4112), .chan (some 4111), .int .u8 (.ofNat 46), .int .u8 (.ofNat 48), .int .u8 (.ofNat 46), .int .u8 (.ofNat 48), .int .u8 (.ofNat 46), .int .u8 (.ofNat 49), .int .u8 (.ofNat 48), .int .u8 (.ofNat 46), .int .u8 (.ofNat 105), .int .u8 (.ofNat 110), .int .u8 (.ofNat 45), .int .u8 (.ofNat 97), .int .u8 (.ofNat 100), .int .u8 (.ofNat 100), .int .u8 (.ofNat 114)],
  .str [.chan (some 4114), .chan (some 4112), .chan (some 4111), .int .u8 (.ofNat 46), .int .u8 (.ofNat 48), .int .u8 (.ofNat 46), .int .u8 (.ofNat 48), .int .u8 (.ofNat 46), .int .u8 (.ofNat 49), .int .u8 (.ofNat 48), .int .u8 (.ofNat 46), .int .u8 (.ofNat 105), .int .u8 (.ofNat 110), .int .u8 (.ofNat 45), .int .u8 (.ofNat 97), .int .u8 (.ofNat 100), .int .u8 (.ofNat 100), .int .u8 (.ofNat 114), .int .u8 (.ofNat 46)],
  .str [.int .u8 (.ofNat 3), .chan (some 4114), .chan (some 4112), .chan (some 4111)],
  .str [.int .u8 (.ofNat 3), .chan (some 4114), .chan (some 4112), .chan (some 4111), .int .u8 (.ofNat 1), .int .u8 (.ofNat 48)],
  .str [.int .u8 (.ofNat 3), .chan (some 4114), .chan (some 4112), .chan (some 4111), .int .u8 (.ofNat 1), .int .u8 (.ofNat 48), .int .u8 (.ofNat 1), .int .u8 (.ofNat 48)],
  .str [.int .u8 (.ofNat 3), .chan (some 4114), .chan (some 4112), .chan (some 4111), .int .u8 (.ofNat 1), .int .u8 (.ofNat 48), .int .u8 (.ofNat 1), .int .u8 (.ofNat 48), .int .u8 (.ofNat 2), .int .u8 (.ofNat 49), .int .u8 (.ofNat 48)],
  .str [.int .u8 (.ofNat 3), .chan (some 4114), .chan (some 4112), .chan (some 4111), .int .u8 (.ofNat 1), .int .u8 (.ofNat 48), .int .u8 (.ofNat 1), .int .u8 (.ofNat 48), .int .u8 (.ofNat 2), .int .u8 (.ofNat 49), .int .u8 (.ofNat 48), .int .u8 (.ofNat 7), .int .u8 (.ofNat 105), .int .u8 (.ofNat 110), .int .u8 (.ofNat 45), .int .u8 (.ofNat 97), .int .u8 (.ofNat 100), .int .u8 (.ofNat 100), .int .u8 (.ofNat 114)],
  .str [.int .u8 (.ofNat 3), .chan (some 4114), .chan (some 4112), .chan (some 4111), .int .u8 (.ofNat 1), .int .u8 (.ofNat 48), .int .u8 (.ofNat 1), .int .u8 (.ofNat 48), .int .u8 (.ofNat 2), .int .u8 (.ofNat 49), .int .u8 (.ofNat 48), .int .u8 (.ofNat 7), .int .u8 (.ofNat 105), .int .u8 (.ofNat 110), .int .u8 (.ofNat 45), .int .u8 (.ofNat 97), .int .u8 (.ofNat 100), .int .u8 (.ofNat 100), .int .u8 (.ofNat 114), .int .u8 (.ofNat 4), .int .u8 (.ofNat 97), .int .u8 (.ofNat 114), .int .u8 (.ofNat 112), .int .u8 (.ofNat 97)],
  .str [.int .u8 (.ofNat 47), .int .u8 (.ofNat 10), .int .u8 (.ofNat 0), .int .u8 (.ofNat 0), .chan (some 4099)],
  .crc [.int .u8 (.ofNat 1), .int .u8 (.ofNat 6), .int .u8 (.ofNat 0), .int .u8 (.ofNat 50), .int .u8 (.ofNat 47), .int .u8 (.ofNat 10), .int .u8 (.ofNat 0), .int .u8 (.ofNat 0), .chan (some 4099), .int .u8 (.ofNat 0), .int .u8 (.ofNat 0), .int .u8 (.ofNat 0), .int .u8 (.ofNat 0), .int .u8 (.ofNat 0), .int .u8 (.ofNat 0), .int .u8 (.ofNat 0), .int .u8 (.ofNat 0), .int .u8 (.ofNat 0), .int .u8 (.ofNat 0), .int .u8 (.ofNat 0), .int .u8 (.ofNat 0), .int .u8 (.ofNat 0), .int .u8 (.ofNat 0), .int .u8 (.ofNat 0), .int .u8 (.ofNat 0), .int .u8 (.ofNat 50), .int .u8 (.ofNat 0), .int .u8 (.ofNat 0), .int .u8 (.ofNat 0), .int .u8 (.ofNat 0), .int .u8 (.ofNat 0), .int .u8 (.ofNat 0), .int .u8 (.ofNat 0), .int .u8 (.ofNat 50), .int .u8 (.ofNat 0), .int .u8 (.ofNat 0), .int .u8 (.ofNat 0), .int .u8 (.ofNat 0), .int .u8 (.ofNat 0), .int .u8 (.ofNat 0), .int .u8 (.ofNat 0), .int .u8 (.ofNat 1), .int .u8 (.ofNat 3), .int .u8 (.ofNat 0), .int .u8 (.ofNat 115), .int .u8 (.ofNat 114), .int .u8 (.ofNat 118), .int .u8 (.ofNat 0), .int .u8 (.ofNat 2), .int .u8 (.ofNat 10), .int .u8 (.ofNat 0), .int .u8 (.ofNat 47), .int .u8 (.ofNat 101), .int .u8 (.ofNat 116), .int .u8 (.ofNat 99), .int .u8 (.ofNat 47), .int .u8 (.ofNat 104), .int .u8 (.ofNat 111), .int .u8 (.ofNat 115), .int .u8 (.ofNat 116), .int .u8 (.ofNat 115), .int .u8 (.ofNat 1), .int .u8 (.ofNat 0), .int .u8 (.ofNat 0), .int .u8 (.ofNat 0), .int .u8 (.ofNat 0), .int .u8 (.ofNat 0), .int .u8 (.ofNat 0), .int .u8 (.ofNat 0), .int .u8 (.ofNat 11), .int .u8 (.ofNat 0), .int .u8 (.ofNat 47), .int .u8 (.ofNat 101), .int .u8 (.ofNat 116), .int .u8 (.ofNat 99), .int .u8 (.ofNat 47), .int .u8 (.ofNat 114), .int .u8 (.ofNat 101), .int .u8 (.ofNat 115), .int .u8 (.ofNat 111), .int .u8 (.ofNat 108), .int .u8 (.ofNat 118), .int .u8 (.ofNat 2), .int .u8 (.ofNat 0), .int .u8 (.ofNat 0), .int .u8 (.ofNat 0), .int .u8 (.ofNat 0), .int .u8 (.ofNat 0), .int .u8 (.ofNat 0), .int .u8 (.ofNat 0)],
  .ent 39 (.chan (some 4134)) (.int .u8 (.ofNat 0)),
  .ent 9 (.chan (some 4135)) (.int .i64 (.ofNat 0)),
  .ent 36 (.chan (some 4136)) (.int .u8 (.ofNat 0)),
  .ent 9 (.chan (some 4135)) (.int .i64 (.ofNat 8)),
  .ent 36 (.chan (some 4138)) (.int .u8 (.ofNat 0)),
  .ent 9 (.chan (some 4135)) (.int .i64 (.ofNat 16)),
  .ent 36 (.chan (some 4140)) (.int .u8 (.ofNat 0)),
  .ent 9 (.chan (some 4135)) (.int .i64 (.ofNat 24)),
  .ent 36 (.chan (some 4142)) (.int .u8 (.ofNat 0)),
  .crc [.int .u8 (.ofNat 2), .int .u8 (.ofNat 6), .int .u8 (.ofNat 0), .int .u8 (.ofNat 50), .int .u8 (.ofNat 47), .int .u8 (.ofNat 10), .int .u8 (.ofNat 0), .int .u8 (.ofNat 0), .chan (some 4099)],
  .ent 39 (.chan (some 4144)) (.int .u8 (.ofNat 0)),
  .ent 9 (.chan (some 4145)) (.int .i64 (.ofNat 0)),
  .ent 36 (.chan (some 4146)) (.int .u8 (.ofNat 0)),
  .ent 9 (.chan (some 4145)) (.int .i64 (.ofNat 8)),
  .ent 36 (.chan (some 4148)) (.int .u8 (.ofNat 0)),
  .ent 9 (.chan (some 4145)) (.int .i64 (.ofNat 16)),
  .ent 36 (.chan (some 4150)) (.int .u8 (.ofNat 0)),
  .ent 9 (.chan (some 4145)) (.int .i64 (.ofNat 24)),
  .ent 36 (.chan (some 4152)) (.int .u8 (.ofNat 0))]
noncomputable def tabS : List NInfo := [⟨none, none, []⟩,
  ⟨none, none, [⟨0, .chan (some 4097), .int .i64 (.ofNat 2), .chan (some 4098)⟩]⟩,
  ⟨none, none, [⟨36, .chan (some 4098), .int .u8 (.ofNat 0), .chan (some 4099)⟩, ⟨39, .chan (some 4098), .int .u8 (.ofNat 0), .chan (some 4103)⟩]⟩,
  ⟨none, none, []⟩,
  ⟨none, some [.chan (some 4099)], []⟩,
  ⟨none, some [.int .u8 (.ofNat 10), .int .u8 (.ofNat 0), .int .u8 (.ofNat 0), .chan (some 4099)], []⟩,
  ⟨none, some [.int .u8 (.ofNat 50), .int .u8 (.ofNat 47), .int .u8 (.ofNat 10), .int .u8 (.ofNat 0), .int .u8 (.ofNat 0), .chan (some 4099)], []⟩,
  ⟨none, none, [⟨38, .chan (some 4103), .int .u8 (.ofNat 0), .chan (some 4106)⟩]⟩,
  ⟨none, none, [⟨2, .chan (some 4104), .int .i64 (.ofNat 78913), .chan (some 4105)⟩]⟩,
  ⟨none, none, []⟩,
  ⟨none, none, [⟨4, .chan (some 4106), .int .u32 (.ofNat 100), .chan (some 4107)⟩, ⟨3, .chan (some 4106), .int .u32 (.ofNat 100), .chan (some 4109)⟩]⟩,
  ⟨none, none, [⟨2, .chan (some 4107), .int .u32 (.ofNat 2), .chan (some 4108)⟩]⟩,
  ⟨none, none, [⟨0, .chan (some 4108), .int .u32 (.ofNat 1), .chan (some 4110)⟩]⟩,
  ⟨none, none, [⟨0, .int .u32 (.ofNat 48), .chan (some 4109), .chan (some 4113)⟩]⟩,
  ⟨none, none, []⟩,
  ⟨none, none, []⟩,
  ⟨none, none, []⟩,
  ⟨none, none, [⟨36, .chan (some 4113), .int .u8 (.ofNat 0), .chan (some 4114)⟩]⟩,
  ⟨none, none, []⟩,
  ⟨none, none, []⟩,
  ⟨none, none, []⟩,
  ⟨none, none, []⟩,
  ⟨none, none, []⟩,
  ⟨none, none, []⟩,
  ⟨none, none, []⟩,
  ⟨none, none, []⟩,
  ⟨none, none, []⟩,
  ⟨none, none, []⟩,
  ⟨none, none, []⟩,
  ⟨none, none, []⟩,
  ⟨none, none, []⟩,
  ⟨none, none, []⟩,
  ⟨none, none, []⟩,
  ⟨none, none, []⟩,
  ⟨none, none, []⟩,
  ⟨none, none, []⟩,
  ⟨none, none, []⟩,
  ⟨none, some [.int .u8 (.ofNat 47), .int .u8 (.ofNat 10), .int .u8 (.ofNat 0), .int .u8 (.ofNat 0), .chan (some 4099)], []⟩,
  ⟨some (.u32, (.ofNat 0), (.ofNat 4294967295)), none, [⟨39, .chan (some 4134), .int .u8 (.ofNat 0), .chan (some 4135)⟩]⟩,
  ⟨some (.u64, (.ofNat 0), (.ofNat 18446744073709551615)), none, [⟨9, .chan (some 4135), .int .i64 (.ofNat 0), .chan (some 4136)⟩, ⟨9, .chan (some 4135), .int .i64 (.ofNat 8), .chan (some 4138)⟩, ⟨9, .chan (some 4135), .int .i64 (.ofNat 16), .chan (some 4140)⟩, ⟨9, .chan (some 4135), .int .i64 (.ofNat 24), .chan (some 4142)⟩]⟩,
  ⟨some (.u64, (.ofNat 0), (.ofNat 18446744073709551615)), none, [⟨36, .chan (some 4136), .int .u8 (.ofNat 0), .chan (some 4137)⟩]⟩,
  ⟨some (.u8, (.ofNat 0), (.ofNat 255)), none, []⟩,
  ⟨some (.u64, (.ofNat 0), (.ofNat 18446744073709551615)), none, [⟨36, .chan (some 4138), .int .u8 (.ofNat 0), .chan (some 4139)⟩]⟩,
  ⟨some (.u8, (.ofNat 0), (.ofNat 255)), none, []⟩,
  ⟨some (.u64, (.ofNat 0), (.ofNat 18446744073709551615)), none, [⟨36, .chan (some 4140), .int .u8 (.ofNat 0), .chan (some 4141)⟩]⟩,
  ⟨some (.u8, (.ofNat 0), (.ofNat 255)), none, []⟩,
  ⟨some (.u64, (.ofNat 0), (.ofNat 18446744073709551615)), none, [⟨36, .chan (some 4142), .int .u8 (.ofNat 0), .chan (some 4143)⟩]⟩,
  ⟨some (.u8, (.ofNat 0), (.ofNat 255)), none, []⟩,
  ⟨some (.u32, (.ofNat 0), (.ofNat 4294967295)), none, [⟨39, .chan (some 4144), .int .u8 (.ofNat 0), .chan (some 4145)⟩]⟩,
  ⟨some (.u64, (.ofNat 0), (.ofNat 18446744073709551615)), none, [⟨9, .chan (some 4145), .int .i64 (.ofNat 0), .chan (some 4146)⟩, ⟨9, .chan (some 4145), .int .i64 (.ofNat 8), .chan (some 4148)⟩, ⟨9, .chan (some 4145), .int .i64 (.ofNat 16), .chan (some 4150)⟩, ⟨9, .chan (some 4145), .int .i64 (.ofNat 24), .chan (some 4152)⟩]⟩,
  ⟨some (.u64, (.ofNat 0), (.ofNat 18446744073709551615)), none, [⟨36, .chan (some 4146), .int .u8 (.ofNat 0), .chan (some 4147)⟩]⟩,
  ⟨some (.u8, (.ofNat 0), (.ofNat 255)), none, []⟩,
  ⟨some (.u64, (.ofNat 0), (.ofNat 18446744073709551615)), none, [⟨36, .chan (some 4148), .int .u8 (.ofNat 0), .chan (some 4149)⟩]⟩,
  ⟨some (.u8, (.ofNat 0), (.ofNat 255)), none, []⟩,
  ⟨some (.u64, (.ofNat 0), (.ofNat 18446744073709551615)), none, [⟨36, .chan (some 4150), .int .u8 (.ofNat 0), .chan (some 4151)⟩]⟩,
  ⟨some (.u8, (.ofNat 0), (.ofNat 255)), none, []⟩,
  ⟨some (.u64, (.ofNat 0), (.ofNat 18446744073709551615)), none, [⟨36, .chan (some 4152), .int .u8 (.ofNat 0), .chan (some 4153)⟩]⟩,
  ⟨some (.u8, (.ofNat 0), (.ofNat 255)), none, []⟩]
noncomputable def tab0 : List NInfo := [⟨none, none, []⟩,
  ⟨some (.i64, (.ofNat 98), (.ofNat 249)), none, []⟩,
  ⟨some (.i64, (.ofNat 100), (.ofNat 251)), none, []⟩,
  ⟨some (.u8, (.ofNat 100), (.ofNat 251)), none, [⟨35, .chan (some 4099), .int .u8 (.ofNat 0), .chan (some 4098)⟩]⟩,
  ⟨none, none, []⟩,
  ⟨none, none, []⟩,
  ⟨none, none, []⟩,
  ⟨some (.u64, (.ofNat 100), (.ofNat 251)), none, []⟩,
  ⟨some (.i64, (.ofNat 7), (.ofNat 8)), none, []⟩,
  ⟨some (.i64, (.ofNat 552391), (.ofNat 631304)), none, [⟨9, .chan (some 4105), .int .u64 (.ofNat 18), .int .i64 (.ofNat 2)⟩]⟩,
  ⟨some (.u32, (.ofNat 100), (.ofNat 251)), none, []⟩,
  ⟨some (.u32, (.ofNat 0), (.ofNat 99)), none, []⟩,
  ⟨some (.u32, (.ofNat 0), (.ofNat 198)), none, [⟨70, .chan (some 4108), .string ⟨⟨[48, 48, 48, 49, 48, 50, 48, 51, 48, 52, 48, 53, 48, 54, 48, 55, 48, 56, 48, 57, 49, 48, 49, 49, 49, 50, 49, 51, 49, 52, 49, 53, 49, 54, 49, 55, 49, 56, 49, 57, 50, 48, 50, 49, 50, 50, 50, 51, 50, 52, 50, 53, 50, 54, 50, 55, 50, 56, 50, 57, 51, 48, 51, 49, 51, 50, 51, 51, 51, 52, 51, 53, 51, 54, 51, 55, 51, 56, 51, 57, 52, 48, 52, 49, 52, 50, 52, 51, 52, 52, 52, 53, 52, 54, 52, 55, 52, 56, 52, 57, 53, 48, 53, 49, 53, 50, 53, 51, 53, 52, 53, 53, 53, 54, 53, 55, 53, 56, 53, 57, 54, 48, 54, 49, 54, 50, 54, 51, 54, 52, 54, 53, 54, 54, 54, 55, 54, 56, 54, 57, 55, 48, 55, 49, 55, 50, 55, 51, 55, 52, 55, 53, 55, 54, 55, 55, 55, 56, 55, 57, 56, 48, 56, 49, 56, 50, 56, 51, 56, 52, 56, 53, 56, 54, 56, 55, 56, 56, 56, 57, 57, 48, 57, 49, 57, 50, 57, 51, 57, 52, 57, 53, 57, 54, 57, 55, 57, 56, 57, 57]⟩⟩, .chan (some 4112)⟩]⟩,
  ⟨some (.u32, (.ofNat 1), (.ofNat 2)), none, []⟩,
  ⟨some (.u32, (.ofNat 1), (.ofNat 199)), none, [⟨70, .chan (some 4110), .string ⟨⟨[48, 48, 48, 49, 48, 50, 48, 51, 48, 52, 48, 53, 48, 54, 48, 55, 48, 56, 48, 57, 49, 48, 49, 49, 49, 50, 49, 51, 49, 52, 49, 53, 49, 54, 49, 55, 49, 56, 49, 57, 50, 48, 50, 49, 50, 50, 50, 51, 50, 52, 50, 53, 50, 54, 50, 55, 50, 56, 50, 57, 51, 48, 51, 49, 51, 50, 51, 51, 51, 52, 51, 53, 51, 54, 51, 55, 51, 56, 51, 57, 52, 48, 52, 49, 52, 50, 52, 51, 52, 52, 52, 53, 52, 54, 52, 55, 52, 56, 52, 57, 53, 48, 53, 49, 53, 50, 53, 51, 53, 52, 53, 53, 53, 54, 53, 55, 53, 56, 53, 57, 54, 48, 54, 49, 54, 50, 54, 51, 54, 52, 54, 53, 54, 54, 54, 55, 54, 56, 54, 57, 55, 48, 55, 49, 55, 50, 55, 51, 55, 52, 55, 53, 55, 54, 55, 55, 55, 56, 55, 57, 56, 48, 56, 49, 56, 50, 56, 51, 56, 52, 56, 53, 56, 54, 56, 55, 56, 56, 56, 57, 57, 48, 57, 49, 57, 50, 57, 51, 57, 52, 57, 53, 57, 54, 57, 55, 57, 56, 57, 57]⟩⟩, .chan (some 4111)⟩]⟩,
  ⟨some (.u8, (.ofNat 48), (.ofNat 57)), none, [⟨6, .chan (some 4111), .int .u8 (.ofNat 32), .chan (some 4111)⟩]⟩,
  ⟨some (.u8, (.ofNat 48), (.ofNat 57)), none, [⟨6, .chan (some 4112), .int .u8 (.ofNat 32), .chan (some 4112)⟩]⟩,
  ⟨some (.u32, (.ofNat 49), (.ofNat 50)), none, []⟩,
  ⟨some (.u8, (.ofNat 49), (.ofNat 50)), none, [⟨6, .chan (some 4114), .int .u8 (.ofNat 32), .chan (some 4114)⟩]⟩,
  ⟨none, some [.chan (some 4114), .chan (some 4112), .chan (some 4111)], []⟩,
  ⟨none, some [.chan (some 4114), .chan (some 4112), .chan (some 4111), .int .u8 (.ofNat 46), .int .u8 (.ofNat 48), .int .u8 (.ofNat 46), .int .u8 (.ofNat 48), .int .u8 (.ofNat 46), .int .u8 (.ofNat 49), .int .u8 (.ofNat 48)], []⟩,
  ⟨none, some [.chan (some 4114), .chan (some 4112), .chan (some 4111), .int .u8 (.ofNat 46), .int .u8 (.ofNat 48), .int .u8 (.ofNat 46), .int .u8 (.ofNat 48), .int .u8 (.ofNat 46), .int .u8 (.ofNat 49), .int .u8 (.ofNat 48), .int .u8 (.ofNat 46), .int .u8 (.ofNat 105), .int .u8 (.ofNat 110), .int .u8 (.ofNat 45), .int .u8 (.ofNat 97), .int .u8 (.ofNat 100), .int .u8 (.ofNat 100), .int .u8 (.ofNat 114), .int .u8 (.ofNat 46), .int .u8 (.ofNat 97), .int .u8 (.ofNat 114), .int .u8 (.ofNat 112), .int .u8 (.ofNat 97)], []⟩,
  ⟨none, some [.int .u8 (.ofNat 3), .chan (some 4114), .chan (some 4112), .chan (some 4111), .int .u8 (.ofNat 1), .int .u8 (.ofNat 48), .int .u8 (.ofNat 1), .int .u8 (.ofNat 48), .int .u8 (.ofNat 2), .int .u8 (.ofNat 49), .int .u8 (.ofNat 48), .int .u8 (.ofNat 7), .int .u8 (.ofNat 105), .int .u8 (.ofNat 110), .int .u8 (.ofNat 45), .int .u8 (.ofNat 97), .int .u8 (.ofNat 100), .int .u8 (.ofNat 100), .int .u8 (.ofNat 114), .int .u8 (.ofNat 4), .int .u8 (.ofNat 97), .int .u8 (.ofNat 114), .int .u8 (.ofNat 112), .int .u8 (.ofNat 97), .int .u8 (.ofNat 0)], []⟩,
  ⟨none, some [.chan (some 4114), .chan (some 4112), .chan (some 4111), .int .u8 (.ofNat 46)], []⟩,
  ⟨none, some [.chan (some 4114), .chan (some 4112), .chan (some 4111), .int .u8 (.ofNat 46), .int .u8 (.ofNat 48)], []⟩,
  ⟨none, some [.chan (some 4114), .chan (some 4112), .chan (some 4111), .int .u8 (.ofNat 46), .int .u8 (.ofNat 48), .int .u8 (.ofNat 46)], []⟩,
  ⟨none, some [.chan (some 4114), .chan (some 4112), .chan (some 4111), .int .u8 (.ofNat 46), .int .u8 (.ofNat 48), .int .u8 (.ofNat 46), .int .u8 (.ofNat 48)], []⟩,
  ⟨none, some [.chan (some 4114), .chan (some 4112), .chan (some 4111), .int .u8 (.ofNat 46), .int .u8 (.ofNat 48), .int .u8 (.ofNat 46), .int .u8 (.ofNat 48), .int .u8 (.ofNat 46)], []⟩,
  ⟨none, some [.chan (some 4114), .chan (some 4112), .chan (some 4111), .int .u8 (.ofNat 46), .int .u8 (.ofNat 48), .int .u8 (.ofNat 46), .int .u8 (.ofNat 48), .int .u8 (.ofNat 46), .int .u8 (.ofNat 49), .int .u8 (.ofNat 48), .int .u8 (.ofNat 46)], []⟩,
  ⟨none, some [.chan (some 4114), .chan (some 4112), .chan (some 4111), .int .u8 (.ofNat 46), .int .u8 (.ofNat 48), .int .u8 (.ofNat 46), .int .u8 (.ofNat 48), .int .u8 (.ofNat 46), .int .u8 (.ofNat 49), .int .u8 (.ofNat 48), .int .u8 (.ofNat 46), .int .u8 (.ofNat 105), .int .u8 (.ofNat 110), .int .u8 (.ofNat 45), .int .u8 (.ofNat 97), .int .u8 (.ofNat 100), .int .u8 (.ofNat 100), .int .u8 (.ofNat 114)], []⟩,
  ⟨none, some [.chan (some 4114), .chan (some 4112), .chan (some 4111), .int .u8 (.ofNat 46), .int .u8 (.ofNat 48), .int .u8 (.ofNat 46), .int .u8 (.ofNat 48), .int .u8 (.ofNat 46), .int .u8 (.ofNat 49), .int .u8 (.ofNat 48), .int .u8 (.ofNat 46), .int .u8 (.ofNat 105), .int .u8 (.ofNat 110), .int .u8 (.ofNat 45), .int .u8 (.ofNat 97), .int .u8 (.ofNat 100), .int .u8 (.ofNat 100), .int .u8 (.ofNat 114), .int .u8 (.ofNat 46)], []⟩,
  ⟨none, some [.int .u8 (.ofNat 3), .chan (some 4114), .chan (some 4112), .chan (some 4111)], []⟩,
  ⟨none, some [.int .u8 (.ofNat 3), .chan (some 4114), .chan (some 4112), .chan (some 4111), .int .u8 (.ofNat 1), .int .u8 (.ofNat 48)], []⟩,
  ⟨none, some [.int .u8 (.ofNat 3), .chan (some 4114), .chan (some 4112), .chan (some 4111), .int .u8 (.ofNat 1), .int .u8 (.ofNat 48), .int .u8 (.ofNat 1), .int .u8 (.ofNat 48)], []⟩,
  ⟨none, some [.int .u8 (.ofNat 3), .chan (some 4114), .chan (some 4112), .chan (some 4111), .int .u8 (.ofNat 1), .int .u8 (.ofNat 48), .int .u8 (.ofNat 1), .int .u8 (.ofNat 48), .int .u8 (.ofNat 2), .int .u8 (.ofNat 49), .int .u8 (.ofNat 48)], []⟩,
  ⟨none, some [.int .u8 (.ofNat 3), .chan (some 4114), .chan (some 4112), .chan (some 4111), .int .u8 (.ofNat 1), .int .u8 (.ofNat 48), .int .u8 (.ofNat 1), .int .u8 (.ofNat 48), .int .u8 (.ofNat 2), .int .u8 (.ofNat 49), .int .u8 (.ofNat 48), .int .u8 (.ofNat 7), .int .u8 (.ofNat 105), .int .u8 (.ofNat 110), .int .u8 (.ofNat 45), .int .u8 (.ofNat 97), .int .u8 (.ofNat 100), .int .u8 (.ofNat 100), .int .u8 (.ofNat 114)], []⟩,
  ⟨none, some [.int .u8 (.ofNat 3), .chan (some 4114), .chan (some 4112), .chan (some 4111), .int .u8 (.ofNat 1), .int .u8 (.ofNat 48), .int .u8 (.ofNat 1), .int .u8 (.ofNat 48), .int .u8 (.ofNat 2), .int .u8 (.ofNat 49), .int .u8 (.ofNat 48), .int .u8 (.ofNat 7), .int .u8 (.ofNat 105), .int .u8 (.ofNat 110), .int .u8 (.ofNat 45), .int .u8 (.ofNat 97), .int .u8 (.ofNat 100), .int .u8 (.ofNat 100), .int .u8 (.ofNat 114), .int .u8 (.ofNat 4), .int .u8 (.ofNat 97), .int .u8 (.ofNat 114), .int .u8 (.ofNat 112), .int .u8 (.ofNat 97)], []⟩,
  ⟨none, none, []⟩,
  ⟨none, none, []⟩,
  ⟨none, none, []⟩,
  ⟨none, none, []⟩,
  ⟨none, none, []⟩,
  ⟨none, none, []⟩,
  ⟨none, none, []⟩,
  ⟨none, none, []⟩,
  ⟨none, none, []⟩,
  ⟨none, none, []⟩,
  ⟨none, none, []⟩,
  ⟨none, none, []⟩,
  ⟨none, none, []⟩,
  ⟨none, none, []⟩,
  ⟨none, none, []⟩,
  ⟨none, none, []⟩,
  ⟨none, none, []⟩,
  ⟨none, none, []⟩,
  ⟨none, none, []⟩,
  ⟨none, none, []⟩,
  ⟨none, none, []⟩]
noncomputable def tab : List NInfo := (unionT tabS tab0)
noncomputable def crcs : List (List Value × Value) := [([.int .u8 (.ofNat 1), .int .u8 (.ofNat 6), .int .u8 (.ofNat 0), .int .u8 (.ofNat 50), .int .u8 (.ofNat 47), .int .u8 (.ofNat 10), .int .u8 (.ofNat 0), .int .u8 (.ofNat 0), .chan (some 4099), .int .u8 (.ofNat 0), .int .u8 (.ofNat 0), .int .u8 (.ofNat 0), .int .u8 (.ofNat 0), .int .u8 (.ofNat 0), .int .u8 (.ofNat 0), .int .u8 (.ofNat 0), .int .u8 (.ofNat 0), .int .u8 (.ofNat 0), .int .u8 (.ofNat 0), .int .u8 (.ofNat 0), .int .u8 (.ofNat 0), .int .u8 (.ofNat 0), .int .u8 (.ofNat 0), .int .u8 (.ofNat 0), .int .u8 (.ofNat 0), .int .u8 (.ofNat 50), .int .u8 (.ofNat 0), .int .u8 (.ofNat 0), .int .u8 (.ofNat 0), .int .u8 (.ofNat 0), .int .u8 (.ofNat 0), .int .u8 (.ofNat 0), .int .u8 (.ofNat 0), .int .u8 (.ofNat 50), .int .u8 (.ofNat 0), .int .u8 (.ofNat 0), .int .u8 (.ofNat 0), .int .u8 (.ofNat 0), .int .u8 (.ofNat 0), .int .u8 (.ofNat 0), .int .u8 (.ofNat 0), .int .u8 (.ofNat 1), .int .u8 (.ofNat 3), .int .u8 (.ofNat 0), .int .u8 (.ofNat 115), .int .u8 (.ofNat 114), .int .u8 (.ofNat 118), .int .u8 (.ofNat 0), .int .u8 (.ofNat 2), .int .u8 (.ofNat 10), .int .u8 (.ofNat 0), .int .u8 (.ofNat 47), .int .u8 (.ofNat 101), .int .u8 (.ofNat 116), .int .u8 (.ofNat 99), .int .u8 (.ofNat 47), .int .u8 (.ofNat 104), .int .u8 (.ofNat 111), .int .u8 (.ofNat 115), .int .u8 (.ofNat 116), .int .u8 (.ofNat 115), .int .u8 (.ofNat 1), .int .u8 (.ofNat 0), .int .u8 (.ofNat 0), .int .u8 (.ofNat 0), .int .u8 (.ofNat 0), .int .u8 (.ofNat 0), .int .u8 (.ofNat 0), .int .u8 (.ofNat 0), .int .u8 (.ofNat 11), .int .u8 (.ofNat 0), .int .u8 (.ofNat 47), .int .u8 (.ofNat 101), .int .u8 (.ofNat 116), .int .u8 (.ofNat 99), .int .u8 (.ofNat 47), .int .u8 (.ofNat 114), .int .u8 (.ofNat 101), .int .u8 (.ofNat 115), .int .u8 (.ofNat 111), .int .u8 (.ofNat 108), .int .u8 (.ofNat 118), .int .u8 (.ofNat 2), .int .u8 (.ofNat 0), .int .u8 (.ofNat 0), .int .u8 (.ofNat 0), .int .u8 (.ofNat 0), .int .u8 (.ofNat 0), .int .u8 (.ofNat 0), .int .u8 (.ofNat 0)], .chan (some 4134)),
  ([.int .u8 (.ofNat 2), .int .u8 (.ofNat 6), .int .u8 (.ofNat 0), .int .u8 (.ofNat 50), .int .u8 (.ofNat 47), .int .u8 (.ofNat 10), .int .u8 (.ofNat 0), .int .u8 (.ofNat 0), .chan (some 4099)], .chan (some 4144))]
noncomputable abbrev base (a0 : Int) (x0 : Nat) : List Value := [.int .i64 a0, .int .i64 (.ofNat x0)]
noncomputable abbrev G (a0 : Int) (x0 : Nat) : Sym := symL (mkVals ds (base a0 x0))
set_option maxRecDepth 100000 in
theorem refs_ok : refsAll ds 2 = true := by kernel_rfl
set_option maxRecDepth 100000 in
theorem nam_ok : namDs ds = true := by kernel_rfl
set_option maxRecDepth 100000 in
theorem len_ok : Nat.ble tab.length 4096 = true := by kernel_rfl
set_option maxRecDepth 100000 in
theorem crcs_ok : crcsB ds 2 crcs = true := by kernel_rfl
set_option maxRecDepth 100000 in
theorem sym_ok : symTab (ksOf ds [none, some .i64]) ds 2 tabS 0 = true := by kernel_rfl
set_option maxRecDepth 100000 in
theorem tab0_all (a0 : Int) : allB 152 (fun i0 => tabB (G a0 (98 + i0)) tab0 0) = true := by kernel_rfl
theorem tab0_ok (a0 : Int) (x0 : Nat) (h0 : 98 ≤ x0 ∧ x0 < 250) : TabOk (G a0 x0) tab0 := by
  have h := (allB_spec (tab0_all a0 ) (x0 - 98) (by omega))
  rw [show 98 + (x0 - 98) = x0 by omega] at h
  exact tabB_part h
theorem kinv (a0 : Int) (x0 : Nat) (h0 : 98 ≤ x0 ∧ x0 < 250) : KInv (symL (base a0 x0)) [none, some .i64] := by
  intro i k hi
  match i, hi with
  | 0, hi => cases hi
  | 1, hi => cases hi; exact ⟨.ofNat x0, rfl, by rw [inK_iff]; show (-9223372036854775808 : Int) ≤ (x0 : Int) ∧ (x0 : Int) ≤ 9223372036854775807; omega⟩
  | n + 2, hi => cases hi
theorem named_ok (a0 : Int) (x0 : Nat) (i : Nat) : named (G a0 x0 i) := symL_named' (mkVals_named (by intro v hv; simp only [base, List.mem_cons, List.not_mem_nil, or_false] at hv; rcases hv with rfl | rfl <;> trivial) nam_ok) i
theorem names_ok (a0 : Int) (x0 : Nat) (h0 : 98 ≤ x0 ∧ x0 < 250) : NamesOk (G a0 x0) (Names.ofL tab) := namesOk_parts (named_ok a0 x0) len_ok (TabOk.union (symTab_part (l := base a0 x0) rfl (kinv a0 x0 h0) refs_ok sym_ok) (tab0_ok a0 x0 h0 ))
theorem crc_ok (a0 : Int) (x0 : Nat) : CrcOk (G a0 x0) crcs := crcsB_ok (l := base a0 x0) refs_ok crcs_ok
theorem gb0 (a0 : Int) (x0 : Nat) : G a0 x0 (4096 - 4096) = .int .i64 a0 := by
  show symL (mkVals ds (base a0 x0)) 0 = _
  rw [symL_low ds (base a0 x0) 0 (by simp)]
  rfl
theorem gb1 (a0 : Int) (x0 : Nat) : G a0 x0 (4097 - 4096) = .int .i64 (.ofNat x0) := by
  show symL (mkVals ds (base a0 x0)) 1 = _
  rw [symL_low ds (base a0 x0) 1 (by simp)]
  rfl
noncomputable def pargs0 : List Value := [.chan (some 4103)]
noncomputable def pres0 : Value := .chan (some 4104)
end Go.Proofs.YtpficieiefgbfaaGreatDoor.topdepends.d3
