/- The law TopFiles: names by classes of its inputs, their makings, their tables, and the check of these. -/
import Derived.Test.YtpficieiefgbfaaGreatDoorVG
import Derived.Test.YtpficieiefgbfaaGreatDoorTB
import Derived.KernelRfl
namespace Go.Proofs.YtpficieiefgbfaaGreatDoor.topfiles.d11
open Go Vai
set_option linter.unusedVariables false
set_option linter.unusedSimpArgs false
noncomputable def ds : List NDef := [.idx .u8 (.chan (some 4098)) 0 [.ofNat 48, .ofNat 49, .ofNat 50, .ofNat 51, .ofNat 52, .ofNat 53, .ofNat 54, .ofNat 55, .ofNat 56, .ofNat 57],
  .str [.chan (some 4100)],
  .str [.int .u8 (.ofNat 49), .int .u8 (.ofNat 48), .int .u8 (.ofNat 46), .int .u8 (.ofNat 48), .int .u8 (.ofNat 46), .int .u8 (.ofNat 48), .int .u8 (.ofNat 46), .chan (some 4100)],
  .str [.int .u8 (.ofNat 49), .int .u8 (.ofNat 48), .int .u8 (.ofNat 46), .int .u8 (.ofNat 48), .int .u8 (.ofNat 46), .int .u8 (.ofNat 48), .int .u8 (.ofNat 46), .chan (some 4100), .int .u8 (.ofNat 32), .int .u8 (.ofNat 104), .int .u8 (.ofNat 10)],
  .str [.int .u8 (.ofNat 49), .int .u8 (.ofNat 48), .int .u8 (.ofNat 46), .int .u8 (.ofNat 48), .int .u8 (.ofNat 46), .int .u8 (.ofNat 48), .int .u8 (.ofNat 46), .chan (some 4100), .int .u8 (.ofNat 32), .int .u8 (.ofNat 104)],
  .ent 34 (.chan (some 4100)) (.int .u8 (.ofNat 0)),
  .str [.int .u8 (.ofNat 48), .int .u8 (.ofNat 46), .int .u8 (.ofNat 48), .int .u8 (.ofNat 46), .chan (some 4100)],
  .str [.int .u8 (.ofNat 48), .int .u8 (.ofNat 46), .chan (some 4100)],
  .ent 1 (.chan (some 4100)) (.int .u8 (.ofNat 48)),
  .ent 39 (.chan (some 4108)) (.int .u8 (.ofNat 0)),
  .str [.int .u8 (.ofNat 10), .int .u8 (.ofNat 0), .int .u8 (.ofNat 0), .chan (some 4108)],
  .str [.int .u8 (.ofNat 0), .int .u8 (.ofNat 0), .int .u8 (.ofNat 0), .int .u8 (.ofNat 0), .int .u8 (.ofNat 0), .int .u8 (.ofNat 0), .int .u8 (.ofNat 0), .int .u8 (.ofNat 0), .int .u8 (.ofNat 0), .int .u8 (.ofNat 0), .int .u8 (.ofNat 255), .int .u8 (.ofNat 255), .int .u8 (.ofNat 10), .int .u8 (.ofNat 0), .int .u8 (.ofNat 0), .chan (some 4108)],
  .crc [.int .u8 (.ofNat 1), .int .u8 (.ofNat 3), .int .u8 (.ofNat 0), .int .u8 (.ofNat 49), .int .u8 (.ofNat 47), .int .u8 (.ofNat 104), .int .u8 (.ofNat 0), .int .u8 (.ofNat 0), .int .u8 (.ofNat 0), .int .u8 (.ofNat 0), .int .u8 (.ofNat 0), .int .u8 (.ofNat 0), .int .u8 (.ofNat 0), .int .u8 (.ofNat 0), .int .u8 (.ofNat 0), .int .u8 (.ofNat 0), .int .u8 (.ofNat 0), .int .u8 (.ofNat 0), .int .u8 (.ofNat 0), .int .u8 (.ofNat 0), .int .u8 (.ofNat 0), .int .u8 (.ofNat 0), .int .u8 (.ofNat 88), .int .u8 (.ofNat 2), .int .u8 (.ofNat 0), .int .u8 (.ofNat 0), .int .u8 (.ofNat 0), .int .u8 (.ofNat 0), .int .u8 (.ofNat 0), .int .u8 (.ofNat 0), .int .u8 (.ofNat 88), .int .u8 (.ofNat 2), .int .u8 (.ofNat 0), .int .u8 (.ofNat 0), .int .u8 (.ofNat 0), .int .u8 (.ofNat 0), .int .u8 (.ofNat 0), .int .u8 (.ofNat 0), .int .u8 (.ofNat 0), .int .u8 (.ofNat 1), .int .u8 (.ofNat 4), .int .u8 (.ofNat 0), .int .u8 (.ofNat 10), .int .u8 (.ofNat 0), .int .u8 (.ofNat 0), .chan (some 4108), .int .u8 (.ofNat 1), .int .u8 (.ofNat 10), .int .u8 (.ofNat 0), .int .u8 (.ofNat 47), .int .u8 (.ofNat 101), .int .u8 (.ofNat 116), .int .u8 (.ofNat 99), .int .u8 (.ofNat 47), .int .u8 (.ofNat 104), .int .u8 (.ofNat 111), .int .u8 (.ofNat 115), .int .u8 (.ofNat 116), .int .u8 (.ofNat 115), .int .u8 (.ofNat 1), .int .u8 (.ofNat 0), .int .u8 (.ofNat 0), .int .u8 (.ofNat 0), .int .u8 (.ofNat 0), .int .u8 (.ofNat 0), .int .u8 (.ofNat 0), .int .u8 (.ofNat 0)],
  .ent 39 (.chan (some 4112)) (.int .u8 (.ofNat 0)),
  .ent 9 (.chan (some 4113)) (.int .i64 (.ofNat 0)),
  .ent 36 (.chan (some 4114)) (.int .u8 (.ofNat 0)),
  .ent 9 (.chan (some 4113)) (.int .i64 (.ofNat 8)),
  .ent 36 (.chan (some 4116)) (.int .u8 (.ofNat 0)),
  .ent 9 (.chan (some 4113)) (.int .i64 (.ofNat 16)),
  .ent 36 (.chan (some 4118)) (.int .u8 (.ofNat 0)),
  .ent 9 (.chan (some 4113)) (.int .i64 (.ofNat 24)),
  .ent 36 (.chan (some 4120)) (.int .u8 (.ofNat 0)),
  .idx .u8 (.chan (some 4099)) 0 [.ofNat 48, .ofNat 49, .ofNat 50, .ofNat 51, .ofNat 52, .ofNat 53, .ofNat 54, .ofNat 55, .ofNat 56, .ofNat 57],
  .str [.chan (some 4122)],
  .str [.int .u8 (.ofNat 49), .int .u8 (.ofNat 48), .int .u8 (.ofNat 46), .int .u8 (.ofNat 48), .int .u8 (.ofNat 46), .int .u8 (.ofNat 48), .int .u8 (.ofNat 46), .chan (some 4122)],
  .str [.int .u8 (.ofNat 49), .int .u8 (.ofNat 48), .int .u8 (.ofNat 46), .int .u8 (.ofNat 48), .int .u8 (.ofNat 46), .int .u8 (.ofNat 48), .int .u8 (.ofNat 46), .chan (some 4122), .int .u8 (.ofNat 32), .int .u8 (.ofNat 104), .int .u8 (.ofNat 10)],
  .str [.int .u8 (.ofNat 49), .int .u8 (.ofNat 48), .int .u8 (.ofNat 46), .int .u8 (.ofNat 48), .int .u8 (.ofNat 46), .int .u8 (.ofNat 48), .int .u8 (.ofNat 46), .chan (some 4122), .int .u8 (.ofNat 32), .int .u8 (.ofNat 104)],
  .ent 34 (.chan (some 4108)) (.int .u8 (.ofNat 0)),
  .ent 34 (.chan (some 4122)) (.int .u8 (.ofNat 0)),
  .str [.int .u8 (.ofNat 48), .int .u8 (.ofNat 46), .int .u8 (.ofNat 48), .int .u8 (.ofNat 46), .chan (some 4122)],
  .str [.int .u8 (.ofNat 48), .int .u8 (.ofNat 46), .chan (some 4122)],
  .ent 1 (.chan (some 4122)) (.int .u8 (.ofNat 48)),
  .ent 39 (.chan (some 4131)) (.int .u8 (.ofNat 0)),
  .str [.int .u8 (.ofNat 10), .int .u8 (.ofNat 0), .int .u8 (.ofNat 0), .chan (some 4131)],
  .str [.int .u8 (.ofNat 0), .int .u8 (.ofNat 0), .int .u8 (.ofNat 0), .int .u8 (.ofNat 0), .int .u8 (.ofNat 0), .int .u8 (.ofNat 0), .int .u8 (.ofNat 0), .int .u8 (.ofNat 0), .int .u8 (.ofNat 0), .int .u8 (.ofNat 0), .int .u8 (.ofNat 255), .int .u8 (.ofNat 255), .int .u8 (.ofNat 10), .int .u8 (.ofNat 0), .int .u8 (.ofNat 0), .chan (some 4131)],
  .crc [.int .u8 (.ofNat 1), .int .u8 (.ofNat 3), .int .u8 (.ofNat 0), .int .u8 (.ofNat 49), .int .u8 (.ofNat 47), .int .u8 (.ofNat 104), .int .u8 (.ofNat 0), .int .u8 (.ofNat 0), .int .u8 (.ofNat 0), .int .u8 (.ofNat 0), .int .u8 (.ofNat 0), .int .u8 (.ofNat 0), .int .u8 (.ofNat 0), .int .u8 (.ofNat 0), .int .u8 (.ofNat 0), .int .u8 (.ofNat 0), .int .u8 (.ofNat 0), .int .u8 (.ofNat 0), .int .u8 (.ofNat 0), .int .u8 (.ofNat 0), .int .u8 (.ofNat 0), .int .u8 (.ofNat 0), .int .u8 (.ofNat 88), .int .u8 (.ofNat 2), .int .u8 (.ofNat 0), .int .u8 (.ofNat 0), .int .u8 (.ofNat 0), .int .u8 (.ofNat 0), .int .u8 (.ofNat 0), .int .u8 (.ofNat 0), .int .u8 (.ofNat 88), .int .u8 (.ofNat 2), .int .u8 (.ofNat 0), .int .u8 (.ofNat 0), .int .u8 (.ofNat 0), .int .u8 (.ofNat 0), .int .u8 (.ofNat 0), .int .u8 (.ofNat 0), .int .u8 (.ofNat 0), .int .u8 (.ofNat 1), .int .u8 (.ofNat 4), .int .u8 (.ofNat 0), .int .u8 (.ofNat 10), .int .u8 (.ofNat 0), .int .u8 (.ofNat 0), .chan (some 4131), .int .u8 (.ofNat 1), .int .u8 (.ofNat 10), .int .u8 (.ofNat 0), .int .u8 (.ofNat 47), .int .u8 (.ofNat 101), .int .u8 (.ofNat 116), .int .u8 (.ofNat 99), .int .u8 (.ofNat 47), .int .u8 (.ofNat 104), .int .u8 (.ofNat 111), .int .u8 (.ofNat 115), .int .u8 (.ofNat 116), .int .u8 (.ofNat 115), .int .u8 (.ofNat 2), .int .u8 (.ofNat 0), .int .u8 (.ofNat 0), .int .u8 (.ofNat 0), .int .u8 (.ofNat 0), .int .u8 (.ofNat 0), .int .u8 (.ofNat 0), .int .u8 (.ofNat 0)],
  .ent 39 (.chan (some 4135)) (.int .u8 (.ofNat 0)),
  .ent 9 (.chan (some 4136)) (.int .i64 (.ofNat 0)),
  .ent 36 (.chan (some 4137)) (.int .u8 (.ofNat 0)),
  .ent 9 (.chan (some 4136)) (.int .i64 (.ofNat 8)),
  .ent 36 (.chan (some 4139)) (.int .u8 (.ofNat 0)),
  .ent 9 (.chan (some 4136)) (.int .i64 (.ofNat 16)),
  .ent 36 (.chan (some 4141)) (.int .u8 (.ofNat 0)),
  .ent 9 (.chan (some 4136)) (.int .i64 (.ofNat 24)),
  .ent 36 (.chan (some 4143)) (.int .u8 (.ofNat 0)),
  .str [.chan (some 4108)],
  .str [.chan (some 4131)]]
noncomputable def tabS : List NInfo := [⟨none, none, []⟩,
  ⟨none, none, []⟩,
  ⟨none, none, []⟩,
  ⟨none, none, []⟩,
  ⟨none, none, [⟨34, .chan (some 4100), .int .u8 (.ofNat 0), .chan (some 4105)⟩, ⟨1, .chan (some 4100), .int .u8 (.ofNat 48), .chan (some 4108)⟩]⟩,
  ⟨none, some [.chan (some 4100)], []⟩,
  ⟨none, some [.int .u8 (.ofNat 49), .int .u8 (.ofNat 48), .int .u8 (.ofNat 46), .int .u8 (.ofNat 48), .int .u8 (.ofNat 46), .int .u8 (.ofNat 48), .int .u8 (.ofNat 46), .chan (some 4100)], []⟩,
  ⟨none, some [.int .u8 (.ofNat 49), .int .u8 (.ofNat 48), .int .u8 (.ofNat 46), .int .u8 (.ofNat 48), .int .u8 (.ofNat 46), .int .u8 (.ofNat 48), .int .u8 (.ofNat 46), .chan (some 4100), .int .u8 (.ofNat 32), .int .u8 (.ofNat 104), .int .u8 (.ofNat 10)], []⟩,
  ⟨none, some [.int .u8 (.ofNat 49), .int .u8 (.ofNat 48), .int .u8 (.ofNat 46), .int .u8 (.ofNat 48), .int .u8 (.ofNat 46), .int .u8 (.ofNat 48), .int .u8 (.ofNat 46), .chan (some 4100), .int .u8 (.ofNat 32), .int .u8 (.ofNat 104)], []⟩,
  ⟨none, none, []⟩,
  ⟨none, some [.int .u8 (.ofNat 48), .int .u8 (.ofNat 46), .int .u8 (.ofNat 48), .int .u8 (.ofNat 46), .chan (some 4100)], []⟩,
  ⟨none, some [.int .u8 (.ofNat 48), .int .u8 (.ofNat 46), .chan (some 4100)], []⟩,
  ⟨none, none, [⟨39, .chan (some 4108), .int .u8 (.ofNat 0), .chan (some 4109)⟩, ⟨34, .chan (some 4108), .int .u8 (.ofNat 0), .chan (some 4127)⟩]⟩,
  ⟨none, none, []⟩,
  ⟨none, some [.int .u8 (.ofNat 10), .int .u8 (.ofNat 0), .int .u8 (.ofNat 0), .chan (some 4108)], []⟩,
  ⟨none, some [.int .u8 (.ofNat 0), .int .u8 (.ofNat 0), .int .u8 (.ofNat 0), .int .u8 (.ofNat 0), .int .u8 (.ofNat 0), .int .u8 (.ofNat 0), .int .u8 (.ofNat 0), .int .u8 (.ofNat 0), .int .u8 (.ofNat 0), .int .u8 (.ofNat 0), .int .u8 (.ofNat 255), .int .u8 (.ofNat 255), .int .u8 (.ofNat 10), .int .u8 (.ofNat 0), .int .u8 (.ofNat 0), .chan (some 4108)], []⟩,
  ⟨some (.u32, (.ofNat 0), (.ofNat 4294967295)), none, [⟨39, .chan (some 4112), .int .u8 (.ofNat 0), .chan (some 4113)⟩]⟩,
  ⟨some (.u64, (.ofNat 0), (.ofNat 18446744073709551615)), none, [⟨9, .chan (some 4113), .int .i64 (.ofNat 0), .chan (some 4114)⟩, ⟨9, .chan (some 4113), .int .i64 (.ofNat 8), .chan (some 4116)⟩, ⟨9, .chan (some 4113), .int .i64 (.ofNat 16), .chan (some 4118)⟩, ⟨9, .chan (some 4113), .int .i64 (.ofNat 24), .chan (some 4120)⟩]⟩,
  ⟨some (.u64, (.ofNat 0), (.ofNat 18446744073709551615)), none, [⟨36, .chan (some 4114), .int .u8 (.ofNat 0), .chan (some 4115)⟩]⟩,
  ⟨some (.u8, (.ofNat 0), (.ofNat 255)), none, []⟩,
  ⟨some (.u64, (.ofNat 0), (.ofNat 18446744073709551615)), none, [⟨36, .chan (some 4116), .int .u8 (.ofNat 0), .chan (some 4117)⟩]⟩,
  ⟨some (.u8, (.ofNat 0), (.ofNat 255)), none, []⟩,
  ⟨some (.u64, (.ofNat 0), (.ofNat 18446744073709551615)), none, [⟨36, .chan (some 4118), .int .u8 (.ofNat 0), .chan (some 4119)⟩]⟩,
  ⟨some (.u8, (.ofNat 0), (.ofNat 255)), none, []⟩,
  ⟨some (.u64, (.ofNat 0), (.ofNat 18446744073709551615)), none, [⟨36, .chan (some 4120), .int .u8 (.ofNat 0), .chan (some 4121)⟩]⟩,
  ⟨some (.u8, (.ofNat 0), (.ofNat 255)), none, []⟩,
  ⟨none, none, [⟨34, .chan (some 4122), .int .u8 (.ofNat 0), .chan (some 4128)⟩, ⟨1, .chan (some 4122), .int .u8 (.ofNat 48), .chan (some 4131)⟩]⟩,
  ⟨none, some [.chan (some 4122)], []⟩,
  ⟨none, some [.int .u8 (.ofNat 49), .int .u8 (.ofNat 48), .int .u8 (.ofNat 46), .int .u8 (.ofNat 48), .int .u8 (.ofNat 46), .int .u8 (.ofNat 48), .int .u8 (.ofNat 46), .chan (some 4122)], []⟩,
  ⟨none, some [.int .u8 (.ofNat 49), .int .u8 (.ofNat 48), .int .u8 (.ofNat 46), .int .u8 (.ofNat 48), .int .u8 (.ofNat 46), .int .u8 (.ofNat 48), .int .u8 (.ofNat 46), .chan (some 4122), .int .u8 (.ofNat 32), .int .u8 (.ofNat 104), .int .u8 (.ofNat 10)], []⟩,
  ⟨none, some [.int .u8 (.ofNat 49), .int .u8 (.ofNat 48), .int .u8 (.ofNat 46), .int .u8 (.ofNat 48), .int .u8 (.ofNat 46), .int .u8 (.ofNat 48), .int .u8 (.ofNat 46), .chan (some 4122), .int .u8 (.ofNat 32), .int .u8 (.ofNat 104)], []⟩,
  ⟨none, none, []⟩,
  ⟨none, none, []⟩,
  ⟨none, some [.int .u8 (.ofNat 48), .int .u8 (.ofNat 46), .int .u8 (.ofNat 48), .int .u8 (.ofNat 46), .chan (some 4122)], []⟩,
  ⟨none, some [.int .u8 (.ofNat 48), .int .u8 (.ofNat 46), .chan (some 4122)], []⟩,
  ⟨none, none, [⟨39, .chan (some 4131), .int .u8 (.ofNat 0), .chan (some 4132)⟩]⟩,
  ⟨none, none, []⟩,
  ⟨none, some [.int .u8 (.ofNat 10), .int .u8 (.ofNat 0), .int .u8 (.ofNat 0), .chan (some 4131)], []⟩,
  ⟨none, some [.int .u8 (.ofNat 0), .int .u8 (.ofNat 0), .int .u8 (.ofNat 0), .int .u8 (.ofNat 0), .int .u8 (.ofNat 0), .int .u8 (.ofNat 0), .int .u8 (.ofNat 0), .int .u8 (.ofNat 0), .int .u8 (.ofNat 0), .int .u8 (.ofNat 0), .int .u8 (.ofNat 255), .int .u8 (.ofNat 255), .int .u8 (.ofNat 10), .int .u8 (.ofNat 0), .int .u8 (.ofNat 0), .chan (some 4131)], []⟩,
  ⟨some (.u32, (.ofNat 0), (.ofNat 4294967295)), none, [⟨39, .chan (some 4135), .int .u8 (.ofNat 0), .chan (some 4136)⟩]⟩,
  ⟨some (.u64, (.ofNat 0), (.ofNat 18446744073709551615)), none, [⟨9, .chan (some 4136), .int .i64 (.ofNat 0), .chan (some 4137)⟩, ⟨9, .chan (some 4136), .int .i64 (.ofNat 8), .chan (some 4139)⟩, ⟨9, .chan (some 4136), .int .i64 (.ofNat 16), .chan (some 4141)⟩, ⟨9, .chan (some 4136), .int .i64 (.ofNat 24), .chan (some 4143)⟩]⟩,
  ⟨some (.u64, (.ofNat 0), (.ofNat 18446744073709551615)), none, [⟨36, .chan (some 4137), .int .u8 (.ofNat 0), .chan (some 4138)⟩]⟩,
  ⟨some (.u8, (.ofNat 0), (.ofNat 255)), none, []⟩,
  ⟨some (.u64, (.ofNat 0), (.ofNat 18446744073709551615)), none, [⟨36, .chan (some 4139), .int .u8 (.ofNat 0), .chan (some 4140)⟩]⟩,
  ⟨some (.u8, (.ofNat 0), (.ofNat 255)), none, []⟩,
  ⟨some (.u64, (.ofNat 0), (.ofNat 18446744073709551615)), none, [⟨36, .chan (some 4141), .int .u8 (.ofNat 0), .chan (some 4142)⟩]⟩,
  ⟨some (.u8, (.ofNat 0), (.ofNat 255)), none, []⟩,
  ⟨some (.u64, (.ofNat 0), (.ofNat 18446744073709551615)), none, [⟨36, .chan (some 4143), .int .u8 (.ofNat 0), .chan (some 4144)⟩]⟩,
  ⟨some (.u8, (.ofNat 0), (.ofNat 255)), none, []⟩,
  ⟨none, some [.chan (some 4108)], []⟩,
  ⟨none, some [.chan (some 4131)], []⟩]
noncomputable def tab0 : List NInfo := [⟨none, none, []⟩,
  ⟨none, none, []⟩,
  ⟨some (.i64, (.ofNat 0), (.ofNat 9)), none, [⟨36, .chan (some 4098), .int .u8 (.ofNat 0), .chan (some 4108)⟩]⟩,
  ⟨none, none, []⟩,
  ⟨some (.u8, (.ofNat 48), (.ofNat 57)), none, []⟩,
  ⟨none, none, []⟩,
  ⟨none, none, []⟩,
  ⟨none, none, []⟩,
  ⟨none, none, []⟩,
  ⟨some (.i32, (.ofNat 48), (.ofNat 57)), none, []⟩,
  ⟨none, none, []⟩,
  ⟨none, none, []⟩,
  ⟨some (.u8, (.ofNat 0), (.ofNat 9)), none, []⟩,
  ⟨some (.u64, (.ofNat 0), (.ofNat 9)), none, [⟨0, .int .u64 (.ofNat 0), .chan (some 4109), .chan (some 4109)⟩, ⟨35, .chan (some 4109), .int .u8 (.ofNat 0), .chan (some 4098)⟩, ⟨36, .chan (some 4109), .int .u8 (.ofNat 0), .chan (some 4108)⟩]⟩,
  ⟨none, none, []⟩,
  ⟨none, none, []⟩,
  ⟨none, none, []⟩,
  ⟨none, none, []⟩,
  ⟨none, none, []⟩,
  ⟨none, none, []⟩,
  ⟨none, none, []⟩,
  ⟨none, none, []⟩,
  ⟨none, none, []⟩,
  ⟨none, none, []⟩,
  ⟨none, none, []⟩,
  ⟨none, none, []⟩,
  ⟨none, none, []⟩,
  ⟨none, none, []⟩,
  ⟨none, none, []⟩,
  ⟨none, none, []⟩,
  ⟨none, none, []⟩,
  ⟨some (.i32, (.ofNat 0), (.ofNat 9)), none, []⟩,
  ⟨none, none, []⟩,
  ⟨none, none, []⟩,
  ⟨none, none, []⟩,
  ⟨none, none, []⟩,
  ⟨none, none, []⟩,
  ⟨none, none, []⟩,
  ⟨none, none, []⟩,
  ⟨none, none, []⟩,
  ⟨none, none, []⟩,
  ⟨none, none, []⟩,
  ⟨none, none, []⟩,
  ⟨none, none, []⟩,
  ⟨none, none, []⟩,
  ⟨none, none, []⟩,
  ⟨none, none, []⟩,
  ⟨none, none, []⟩,
  ⟨none, none, []⟩,
  ⟨none, none, []⟩,
  ⟨none, none, []⟩]
noncomputable def tab1 : List NInfo := [⟨none, none, []⟩,
  ⟨none, none, []⟩,
  ⟨none, none, []⟩,
  ⟨some (.i64, (.ofNat 0), (.ofNat 9)), none, [⟨36, .chan (some 4099), .int .u8 (.ofNat 0), .chan (some 4131)⟩]⟩,
  ⟨none, none, []⟩,
  ⟨none, none, []⟩,
  ⟨none, none, []⟩,
  ⟨none, none, []⟩,
  ⟨none, none, []⟩,
  ⟨none, none, []⟩,
  ⟨none, none, []⟩,
  ⟨none, none, []⟩,
  ⟨none, none, []⟩,
  ⟨none, none, []⟩,
  ⟨none, none, []⟩,
  ⟨none, none, []⟩,
  ⟨none, none, []⟩,
  ⟨none, none, []⟩,
  ⟨none, none, []⟩,
  ⟨none, none, []⟩,
  ⟨none, none, []⟩,
  ⟨none, none, []⟩,
  ⟨none, none, []⟩,
  ⟨none, none, []⟩,
  ⟨none, none, []⟩,
  ⟨none, none, []⟩,
  ⟨some (.u8, (.ofNat 48), (.ofNat 57)), none, []⟩,
  ⟨none, none, []⟩,
  ⟨none, none, []⟩,
  ⟨none, none, []⟩,
  ⟨none, none, []⟩,
  ⟨none, none, []⟩,
  ⟨some (.i32, (.ofNat 48), (.ofNat 57)), none, []⟩,
  ⟨none, none, []⟩,
  ⟨none, none, []⟩,
  ⟨some (.u8, (.ofNat 0), (.ofNat 9)), none, []⟩,
  ⟨some (.u64, (.ofNat 0), (.ofNat 9)), none, [⟨0, .int .u64 (.ofNat 0), .chan (some 4132), .chan (some 4132)⟩, ⟨35, .chan (some 4132), .int .u8 (.ofNat 0), .chan (some 4099)⟩, ⟨36, .chan (some 4132), .int .u8 (.ofNat 0), .chan (some 4131)⟩]⟩,
  ⟨none, none, []⟩,
  ⟨none, none, []⟩,
  ⟨none, none, []⟩,
  ⟨none, none, []⟩,
  ⟨none, none, []⟩,
  ⟨none, none, []⟩,
  ⟨none, none, []⟩,
  ⟨none, none, []⟩,
  ⟨none, none, []⟩,
  ⟨none, none, []⟩,
  ⟨none, none, []⟩,
  ⟨none, none, []⟩,
  ⟨none, none, []⟩,
  ⟨none, none, []⟩]
noncomputable def tab : List NInfo := (unionT tabS (unionT tab0 tab1))
noncomputable def crcs : List (List Value × Value) := [([.int .u8 (.ofNat 1), .int .u8 (.ofNat 3), .int .u8 (.ofNat 0), .int .u8 (.ofNat 49), .int .u8 (.ofNat 47), .int .u8 (.ofNat 104), .int .u8 (.ofNat 0), .int .u8 (.ofNat 0), .int .u8 (.ofNat 0), .int .u8 (.ofNat 0), .int .u8 (.ofNat 0), .int .u8 (.ofNat 0), .int .u8 (.ofNat 0), .int .u8 (.ofNat 0), .int .u8 (.ofNat 0), .int .u8 (.ofNat 0), .int .u8 (.ofNat 0), .int .u8 (.ofNat 0), .int .u8 (.ofNat 0), .int .u8 (.ofNat 0), .int .u8 (.ofNat 0), .int .u8 (.ofNat 0), .int .u8 (.ofNat 88), .int .u8 (.ofNat 2), .int .u8 (.ofNat 0), .int .u8 (.ofNat 0), .int .u8 (.ofNat 0), .int .u8 (.ofNat 0), .int .u8 (.ofNat 0), .int .u8 (.ofNat 0), .int .u8 (.ofNat 88), .int .u8 (.ofNat 2), .int .u8 (.ofNat 0), .int .u8 (.ofNat 0), .int .u8 (.ofNat 0), .int .u8 (.ofNat 0), .int .u8 (.ofNat 0), .int .u8 (.ofNat 0), .int .u8 (.ofNat 0), .int .u8 (.ofNat 1), .int .u8 (.ofNat 4), .int .u8 (.ofNat 0), .int .u8 (.ofNat 10), .int .u8 (.ofNat 0), .int .u8 (.ofNat 0), .chan (some 4108), .int .u8 (.ofNat 1), .int .u8 (.ofNat 10), .int .u8 (.ofNat 0), .int .u8 (.ofNat 47), .int .u8 (.ofNat 101), .int .u8 (.ofNat 116), .int .u8 (.ofNat 99), .int .u8 (.ofNat 47), .int .u8 (.ofNat 104), .int .u8 (.ofNat 111), .int .u8 (.ofNat 115), .int .u8 (.ofNat 116), .int .u8 (.ofNat 115), .int .u8 (.ofNat 1), .int .u8 (.ofNat 0), .int .u8 (.ofNat 0), .int .u8 (.ofNat 0), .int .u8 (.ofNat 0), .int .u8 (.ofNat 0), .int .u8 (.ofNat 0), .int .u8 (.ofNat 0)], .chan (some 4112)),
  ([.int .u8 (.ofNat 1), .int .u8 (.ofNat 3), .int .u8 (.ofNat 0), .int .u8 (.ofNat 49), .int .u8 (.ofNat 47), .int .u8 (.ofNat 104), .int .u8 (.ofNat 0), .int .u8 (.ofNat 0), .int .u8 (.ofNat 0), .int .u8 (.ofNat 0), .int .u8 (.ofNat 0), .int .u8 (.ofNat 0), .int .u8 (.ofNat 0), .int .u8 (.ofNat 0), .int .u8 (.ofNat 0), .int .u8 (.ofNat 0), .int .u8 (.ofNat 0), .int .u8 (.ofNat 0), .int .u8 (.ofNat 0), .int .u8 (.ofNat 0), .int .u8 (.ofNat 0), .int .u8 (.ofNat 0), .int .u8 (.ofNat 88), .int .u8 (.ofNat 2), .int .u8 (.ofNat 0), .int .u8 (.ofNat 0), .int .u8 (.ofNat 0), .int .u8 (.ofNat 0), .int .u8 (.ofNat 0), .int .u8 (.ofNat 0), .int .u8 (.ofNat 88), .int .u8 (.ofNat 2), .int .u8 (.ofNat 0), .int .u8 (.ofNat 0), .int .u8 (.ofNat 0), .int .u8 (.ofNat 0), .int .u8 (.ofNat 0), .int .u8 (.ofNat 0), .int .u8 (.ofNat 0), .int .u8 (.ofNat 1), .int .u8 (.ofNat 4), .int .u8 (.ofNat 0), .int .u8 (.ofNat 10), .int .u8 (.ofNat 0), .int .u8 (.ofNat 0), .chan (some 4131), .int .u8 (.ofNat 1), .int .u8 (.ofNat 10), .int .u8 (.ofNat 0), .int .u8 (.ofNat 47), .int .u8 (.ofNat 101), .int .u8 (.ofNat 116), .int .u8 (.ofNat 99), .int .u8 (.ofNat 47), .int .u8 (.ofNat 104), .int .u8 (.ofNat 111), .int .u8 (.ofNat 115), .int .u8 (.ofNat 116), .int .u8 (.ofNat 115), .int .u8 (.ofNat 2), .int .u8 (.ofNat 0), .int .u8 (.ofNat 0), .int .u8 (.ofNat 0), .int .u8 (.ofNat 0), .int .u8 (.ofNat 0), .int .u8 (.ofNat 0), .int .u8 (.ofNat 0)], .chan (some 4135))]
noncomputable abbrev base (a0 : Int) (a1 : Int) (x0 : Nat) (x1 : Nat) : List Value := [.int .i64 a0, .int .i64 a1, .int .i64 (.ofNat x0), .int .i64 (.ofNat x1)]
noncomputable abbrev G (a0 : Int) (a1 : Int) (x0 : Nat) (x1 : Nat) : Sym := symL (mkVals ds (base a0 a1 x0 x1))
set_option maxRecDepth 100000 in
theorem refs_ok : refsAll ds 4 = true := by kernel_rfl
set_option maxRecDepth 100000 in
theorem nam_ok : namDs ds = true := by kernel_rfl
set_option maxRecDepth 100000 in
theorem len_ok : Nat.ble tab.length 4096 = true := by kernel_rfl
set_option maxRecDepth 100000 in
theorem crcs_ok : crcsB ds 4 crcs = true := by kernel_rfl
set_option maxRecDepth 100000 in
theorem sym_ok : symTab (ksOf ds [none, none, some .i64, some .i64]) ds 4 tabS 0 = true := by kernel_rfl
set_option maxRecDepth 100000 in
theorem tab0_all (a0 : Int) (a1 : Int) (x1 : Nat) : allB 10 (fun i0 => tabB (G a0 a1 (0 + i0) x1) tab0 0) = true := by kernel_rfl
theorem tab0_ok (a0 : Int) (a1 : Int) (x0 : Nat) (x1 : Nat) (h0 : 0 ≤ x0 ∧ x0 < 10) (h1 : 0 ≤ x1 ∧ x1 < 10) : TabOk (G a0 a1 x0 x1) tab0 := by
  have h := (allB_spec (tab0_all a0 a1 x1) (x0 - 0) (by omega))
  rw [show 0 + (x0 - 0) = x0 by omega] at h
  exact tabB_part h
set_option maxRecDepth 100000 in
theorem tab1_all (a0 : Int) (a1 : Int) (x0 : Nat) : allB 10 (fun i1 => tabB (G a0 a1 x0 (0 + i1)) tab1 0) = true := by kernel_rfl
theorem tab1_ok (a0 : Int) (a1 : Int) (x0 : Nat) (x1 : Nat) (h0 : 0 ≤ x0 ∧ x0 < 10) (h1 : 0 ≤ x1 ∧ x1 < 10) : TabOk (G a0 a1 x0 x1) tab1 := by
  have h := (allB_spec (tab1_all a0 a1 x0) (x1 - 0) (by omega))
  rw [show 0 + (x1 - 0) = x1 by omega] at h
  exact tabB_part h
theorem kinv (a0 : Int) (a1 : Int) (x0 : Nat) (x1 : Nat) (h0 : 0 ≤ x0 ∧ x0 < 10) (h1 : 0 ≤ x1 ∧ x1 < 10) : KInv (symL (base a0 a1 x0 x1)) [none, none, some .i64, some .i64] := by
  intro i k hi
  match i, hi with
  | 0, hi => cases hi
  | 1, hi => cases hi
  | 2, hi => cases hi; exact ⟨.ofNat x0, rfl, by rw [inK_iff]; show (-9223372036854775808 : Int) ≤ (x0 : Int) ∧ (x0 : Int) ≤ 9223372036854775807; omega⟩
  | 3, hi => cases hi; exact ⟨.ofNat x1, rfl, by rw [inK_iff]; show (-9223372036854775808 : Int) ≤ (x1 : Int) ∧ (x1 : Int) ≤ 9223372036854775807; omega⟩
  | n + 4, hi => cases hi
theorem named_ok (a0 : Int) (a1 : Int) (x0 : Nat) (x1 : Nat) (i : Nat) : named (G a0 a1 x0 x1 i) := symL_named' (mkVals_named (by intro v hv; simp only [base, List.mem_cons, List.not_mem_nil, or_false] at hv; rcases hv with rfl | rfl | rfl | rfl <;> trivial) nam_ok) i
theorem names_ok (a0 : Int) (a1 : Int) (x0 : Nat) (x1 : Nat) (h0 : 0 ≤ x0 ∧ x0 < 10) (h1 : 0 ≤ x1 ∧ x1 < 10) : NamesOk (G a0 a1 x0 x1) (Names.ofL tab) := namesOk_parts (named_ok a0 a1 x0 x1) len_ok (TabOk.union (symTab_part (l := base a0 a1 x0 x1) rfl (kinv a0 a1 x0 x1 h0 h1) refs_ok sym_ok) (TabOk.union (tab0_ok a0 a1 x0 x1 h0 h1 ) (tab1_ok a0 a1 x0 x1 h0 h1 )))
theorem crc_ok (a0 : Int) (a1 : Int) (x0 : Nat) (x1 : Nat) : CrcOk (G a0 a1 x0 x1) crcs := crcsB_ok (l := base a0 a1 x0 x1) refs_ok crcs_ok
theorem gb0 (a0 : Int) (a1 : Int) (x0 : Nat) (x1 : Nat) : G a0 a1 x0 x1 (4096 - 4096) = .int .i64 a0 := by
  show symL (mkVals ds (base a0 a1 x0 x1)) 0 = _
  rw [symL_low ds (base a0 a1 x0 x1) 0 (by simp)]
  rfl
theorem gb1 (a0 : Int) (a1 : Int) (x0 : Nat) (x1 : Nat) : G a0 a1 x0 x1 (4097 - 4096) = .int .i64 a1 := by
  show symL (mkVals ds (base a0 a1 x0 x1)) 1 = _
  rw [symL_low ds (base a0 a1 x0 x1) 1 (by simp)]
  rfl
theorem gb2 (a0 : Int) (a1 : Int) (x0 : Nat) (x1 : Nat) : G a0 a1 x0 x1 (4098 - 4096) = .int .i64 (.ofNat x0) := by
  show symL (mkVals ds (base a0 a1 x0 x1)) 2 = _
  rw [symL_low ds (base a0 a1 x0 x1) 2 (by simp)]
  rfl
theorem gb3 (a0 : Int) (a1 : Int) (x0 : Nat) (x1 : Nat) : G a0 a1 x0 x1 (4099 - 4096) = .int .i64 (.ofNat x1) := by
  show symL (mkVals ds (base a0 a1 x0 x1)) 3 = _
  rw [symL_low ds (base a0 a1 x0 x1) 3 (by simp)]
  rfl
noncomputable def pargs0 : List Value := [.chan (some 4098)]
noncomputable def pres0 : Value := .chan (some 4101)
noncomputable def pargs1 : List Value := [.chan (some 4098)]
noncomputable def pres1 : Value := .chan (some 4101)
noncomputable def pargs2 : List Value := [.chan (some 4099)]
noncomputable def pres2 : Value := .chan (some 4123)
noncomputable def pargs3 : List Value := [.chan (some 4099)]
noncomputable def pres3 : Value := .chan (some 4123)
end Go.Proofs.YtpficieiefgbfaaGreatDoor.topfiles.d11
namespace Go.Proofs.YtpficieiefgbfaaGreatDoor.topfiles.d12
open Go Vai
set_option linter.unusedVariables false
set_option linter.unusedSimpArgs false
noncomputable def ds : List NDef := [.idx .u8 (.chan (some 4098)) 0 [.ofNat 48, .ofNat 49, .ofNat 50, .ofNat 51, .ofNat 52, .ofNat 53, .ofNat 54, .ofNat 55, .ofNat 56, .ofNat 57],
  .str [.chan (some 4100)],
  .str [.int .u8 (.ofNat 49), .int .u8 (.ofNat 48), .int .u8 (.ofNat 46), .int .u8 (.ofNat 48), .int .u8 (.ofNat 46), .int .u8 (.ofNat 48), .int .u8 (.ofNat 46), .chan (some 4100)],
  .str [.int .u8 (.ofNat 49), .int .u8 (.ofNat 48), .int .u8 (.ofNat 46), .int .u8 (.ofNat 48), .int .u8 (.ofNat 46), .int .u8 (.ofNat 48), .int .u8 (.ofNat 46), .chan (some 4100), .int .u8 (.ofNat 32), .int .u8 (.ofNat 104), .int .u8 (.ofNat 10)],
  .str [.int .u8 (.ofNat 49), .int .u8 (.ofNat 48), .int .u8 (.ofNat 46), .int .u8 (.ofNat 48), .int .u8 (.ofNat 46), .int .u8 (.ofNat 48), .int .u8 (.ofNat 46), .chan (some 4100), .int .u8 (.ofNat 32), .int .u8 (.ofNat 104)],
  .ent 34 (.chan (some 4100)) (.int .u8 (.ofNat 0)),
  .str [.int .u8 (.ofNat 48), .int .u8 (.ofNat 46), .int .u8 (.ofNat 48), .int .u8 (.ofNat 46), .chan (some 4100)],
  .str [.int .u8 (.ofNat 48), .int .u8 (.ofNat 46), .chan (some 4100)],
  .ent 1 (.chan (some 4100)) (.int .u8 (.ofNat 48)),
  .ent 39 (.chan (some 4108)) (.int .u8 (.ofNat 0)),
  .str [.int .u8 (.ofNat 10), .int .u8 (.ofNat 0), .int .u8 (.ofNat 0), .chan (some 4108)],
  .str [.int .u8 (.ofNat 0), .int .u8 (.ofNat 0), .int .u8 (.ofNat 0), .int .u8 (.ofNat 0), .int .u8 (.ofNat 0), .int .u8 (.ofNat 0), .int .u8 (.ofNat 0), .int .u8 (.ofNat 0), .int .u8 (.ofNat 0), .int .u8 (.ofNat 0), .int .u8 (.ofNat 255), .int .u8 (.ofNat 255), .int .u8 (.ofNat 10), .int .u8 (.ofNat 0), .int .u8 (.ofNat 0), .chan (some 4108)],
  .crc [.int .u8 (.ofNat 1), .int .u8 (.ofNat 3), .int .u8 (.ofNat 0), .int .u8 (.ofNat 49), .int .u8 (.ofNat 47), .int .u8 (.ofNat 104), .int .u8 (.ofNat 0), .int .u8 (.ofNat 0), .int .u8 (.ofNat 0), .int .u8 (.ofNat 0), .int .u8 (.ofNat 0), .int .u8 (.ofNat 0), .int .u8 (.ofNat 0), .int .u8 (.ofNat 0), .int .u8 (.ofNat 0), .int .u8 (.ofNat 0), .int .u8 (.ofNat 0), .int .u8 (.ofNat 0), .int .u8 (.ofNat 0), .int .u8 (.ofNat 0), .int .u8 (.ofNat 0), .int .u8 (.ofNat 0), .int .u8 (.ofNat 88), .int .u8 (.ofNat 2), .int .u8 (.ofNat 0), .int .u8 (.ofNat 0), .int .u8 (.ofNat 0), .int .u8 (.ofNat 0), .int .u8 (.ofNat 0), .int .u8 (.ofNat 0), .int .u8 (.ofNat 88), .int .u8 (.ofNat 2), .int .u8 (.ofNat 0), .int .u8 (.ofNat 0), .int .u8 (.ofNat 0), .int .u8 (.ofNat 0), .int .u8 (.ofNat 0), .int .u8 (.ofNat 0), .int .u8 (.ofNat 0), .int .u8 (.ofNat 1), .int .u8 (.ofNat 4), .int .u8 (.ofNat 0), .int .u8 (.ofNat 10), .int .u8 (.ofNat 0), .int .u8 (.ofNat 0), .chan (some 4108), .int .u8 (.ofNat 1), .int .u8 (.ofNat 10), .int .u8 (.ofNat 0), .int .u8 (.ofNat 47), .int .u8 (.ofNat 101), .int .u8 (.ofNat 116), .int .u8 (.ofNat 99), .int .u8 (.ofNat 47), .int .u8 (.ofNat 104), .int .u8 (.ofNat 111), .int .u8 (.ofNat 115), .int .u8 (.ofNat 116), .int .u8 (.ofNat 115), .int .u8 (.ofNat 1), .int .u8 (.ofNat 0), .int .u8 (.ofNat 0), .int .u8 (.ofNat 0), .int .u8 (.ofNat 0), .int .u8 (.ofNat 0), .int .u8 (.ofNat 0), .int .u8 (.ofNat 0)],
  .ent 39 (.chan (some 4112)) (.int .u8 (.ofNat 0)),
  .ent 9 (.chan (some 4113)) (.int .i64 (.ofNat 0)),
  .ent 36 (.chan (some 4114)) (.int .u8 (.ofNat 0)),
  .ent 9 (.chan (some 4113)) (.int .i64 (.ofNat 8)),
  .ent 36 (.chan (some 4116)) (.int .u8 (.ofNat 0)),
  .ent 9 (.chan (some 4113)) (.int .i64 (.ofNat 16)),
  .ent 36 (.chan (some 4118)) (.int .u8 (.ofNat 0)),
  .ent 9 (.chan (some 4113)) (.int .i64 (.ofNat 24)),
  .ent 36 (.chan (some 4120)) (.int .u8 (.ofNat 0)),
  .idx .u8 (.chan (some 4099)) 10 [.ofNat 49, .ofNat 49, .ofNat 49, .ofNat 49, .ofNat 49, .ofNat 49, .ofNat 49, .ofNat 49, .ofNat 49, .ofNat 49, .ofNat 50, .ofNat 50, .ofNat 50, .ofNat 50, .ofNat 50, .ofNat 50, .ofNat 50, .ofNat 50, .ofNat 50, .ofNat 50, .ofNat 51, .ofNat 51, .ofNat 51, .ofNat 51, .ofNat 51, .ofNat 51, .ofNat 51, .ofNat 51, .ofNat 51, .ofNat 51, .ofNat 52, .ofNat 52, .ofNat 52, .ofNat 52, .ofNat 52, .ofNat 52, .ofNat 52, .ofNat 52, .ofNat 52, .ofNat 52, .ofNat 53, .ofNat 53, .ofNat 53, .ofNat 53, .ofNat 53, .ofNat 53, .ofNat 53, .ofNat 53, .ofNat 53, .ofNat 53, .ofNat 54, .ofNat 54, .ofNat 54, .ofNat 54, .ofNat 54, .ofNat 54, .ofNat 54, .ofNat 54, .ofNat 54, .ofNat 54, .ofNat 55, .ofNat 55, .ofNat 55, .ofNat 55, .ofNat 55, .ofNat 55, .ofNat 55, .ofNat 55, .ofNat 55, .ofNat 55, .ofNat 56, .ofNat 56, .ofNat 56, .ofNat 56, .ofNat 56, .ofNat 56, .ofNat 56, .ofNat 56, .ofNat 56, .ofNat 56, .ofNat 57, .ofNat 57, .ofNat 57, .ofNat 57, .ofNat 57, .ofNat 57, .ofNat 57, .ofNat 57, .ofNat 57, .ofNat 57],
  .idx .u8 (.chan (some 4099)) 10 [.ofNat 48, .ofNat 49, .ofNat 50, .ofNat 51, .ofNat 52, .ofNat 53, .ofNat 54, .ofNat 55, .ofNat 56, .ofNat 57, .ofNat 48, .ofNat 49, .ofNat 50, .ofNat 51, .ofNat 52, .ofNat 53, .ofNat 54, .ofNat 55, .ofNat 56, .ofNat 57, .ofNat 48, .ofNat 49, .ofNat 50, .ofNat 51, .ofNat 52, .ofNat 53, .ofNat 54, .ofNat 55, .ofNat 56, .ofNat 57, .ofNat 48, .ofNat 49, .ofNat 50, .ofNat 51, .ofNat 52, .ofNat 53, .ofNat 54, .ofNat 55, .ofNat 56, .ofNat 57, .ofNat 48, .ofNat 49, .ofNat 50, .ofNat 51, .ofNat 52, .ofNat 53, .ofNat 54, .ofNat 55, .ofNat 56, .ofNat 57, .ofNat 48, .ofNat 49, .ofNat 50, .ofNat 51, .ofNat 52, .ofNat 53, .ofNat 54, .ofNat 55, .ofNat 56, .ofNat 57, .ofNat 48, .ofNat 49, .ofNat 50, .ofNat 51, .ofNat 52, .ofNat 53, .ofNat 54, .ofNat 55, .ofNat 56, .ofNat 57, .ofNat 48, .ofNat 49, .ofNat 50, .ofNat 51, .ofNat 52, .ofNat 53, .ofNat 54, .ofNat 55, .ofNat 56, .ofNat 57, .ofNat 48, .ofNat 49, .ofNat 50, .ofNat 51, .ofNat 52, .ofNat 53, .ofNat 54, .ofNat 55, .ofNat 56, .ofNat 57],
  .str [.chan (some 4122), .chan (some 4123)],
  .str [.int .u8 (.ofNat 49), .int .u8 (.ofNat 48), .int .u8 (.ofNat 46), .int .u8 (.ofNat 48), .int .u8 (.ofNat 46), .int .u8 (.ofNat 48), .int .u8 (.ofNat 46), .chan (some 4122), .chan (some 4123)],
  .str [.int .u8 (.ofNat 49), .int .u8 (.ofNat 48), .int .u8 (.ofNat 46), .int .u8 (.ofNat 48), .int .u8 (.ofNat 46), .int .u8 (.ofNat 48), .int .u8 (.ofNat 46), .chan (some 4122), .chan (some 4123), .int .u8 (.ofNat 32), .int .u8 (.ofNat 104), .int .u8 (.ofNat 10)],
  .str [.int .u8 (.ofNat 49), .int .u8 (.ofNat 48), .int .u8 (.ofNat 46), .int .u8 (.ofNat 48), .int .u8 (.ofNat 46), .int .u8 (.ofNat 48), .int .u8 (.ofNat 46), .chan (some 4122), .chan (some 4123), .int .u8 (.ofNat 32), .int .u8 (.ofNat 104)],
  .ent 34 (.chan (some 4108)) (.int .u8 (.ofNat 0)),
  .ent 34 (.chan (some 4122)) (.int .u8 (.ofNat 0)),
  .ent 34 (.chan (some 4123)) (.int .u8 (.ofNat 0)),
  .str [.int .u8 (.ofNat 48), .int .u8 (.ofNat 46), .int .u8 (.ofNat 48), .int .u8 (.ofNat 46), .chan (some 4122), .chan (some 4123)],
  .str [.int .u8 (.ofNat 48), .int .u8 (.ofNat 46), .chan (some 4122), .chan (some 4123)],
  .ent 1 (.chan (some 4122)) (.int .u8 (.ofNat 48)),
  .ent 39 (.chan (some 4133)) (.int .u8 (.ofNat 0)),
  .ent 1 (.chan (some 4123)) (.int .u8 (.ofNat 48)),
  .ent 2 (.chan (some 4134)) (.int .u64 (.ofNat 10)),
  .ent 39 (.chan (some 4135)) (.int .u8 (.ofNat 0)),
  .ent 0 (.chan (some 4136)) (.chan (some 4137)),
  .ent 36 (.chan (some 4138)) (.int .u8 (.ofNat 0)),
  .str [.int .u8 (.ofNat 10), .int .u8 (.ofNat 0), .int .u8 (.ofNat 0), .chan (some 4139)],
  .str [.int .u8 (.ofNat 0), .int .u8 (.ofNat 0), .int .u8 (.ofNat 0), .int .u8 (.ofNat 0), .int .u8 (.ofNat 0), .int .u8 (.ofNat 0), .int .u8 (.ofNat 0), .int .u8 (.ofNat 0), .int .u8 (.ofNat 0), .int .u8 (.ofNat 0), .int .u8 (.ofNat 255), .int .u8 (.ofNat 255), .int .u8 (.ofNat 10), .int .u8 (.ofNat 0), .int .u8 (.ofNat 0), .chan (some 4139)],
  .crc [.int .u8 (.ofNat 1), .int .u8 (.ofNat 3), .int .u8 (.ofNat 0), .int .u8 (.ofNat 49), .int .u8 (.ofNat 47), .int .u8 (.ofNat 104), .int .u8 (.ofNat 0), .int .u8 (.ofNat 0), .int .u8 (.ofNat 0), .int .u8 (.ofNat 0), .int .u8 (.ofNat 0), .int .u8 (.ofNat 0), .int .u8 (.ofNat 0), .int .u8 (.ofNat 0), .int .u8 (.ofNat 0), .int .u8 (.ofNat 0), .int .u8 (.ofNat 0), .int .u8 (.ofNat 0), .int .u8 (.ofNat 0), .int .u8 (.ofNat 0), .int .u8 (.ofNat 0), .int .u8 (.ofNat 0), .int .u8 (.ofNat 88), .int .u8 (.ofNat 2), .int .u8 (.ofNat 0), .int .u8 (.ofNat 0), .int .u8 (.ofNat 0), .int .u8 (.ofNat 0), .int .u8 (.ofNat 0), .int .u8 (.ofNat 0), .int .u8 (.ofNat 88), .int .u8 (.ofNat 2), .int .u8 (.ofNat 0), .int .u8 (.ofNat 0), .int .u8 (.ofNat 0), .int .u8 (.ofNat 0), .int .u8 (.ofNat 0), .int .u8 (.ofNat 0), .int .u8 (.ofNat 0), .int .u8 (.ofNat 1), .int .u8 (.ofNat 4), .int .u8 (.ofNat 0), .int .u8 (.ofNat 10), .int .u8 (.ofNat 0), .int .u8 (.ofNat 0), .chan (some 4139), .int .u8 (.ofNat 1), .int .u8 (.ofNat 10), .int .u8 (.ofNat 0), .int .u8 (.ofNat 47), .int .u8 (.ofNat 101), .int .u8 (.ofNat 116), .int .u8 (.ofNat 99), .int .u8 (.ofNat 47), .int .u8 (.ofNat 104), .int .u8 (.ofNat 111), .int .u8 (.ofNat 115), .int .u8 (.ofNat 116), .int .u8 (.ofNat 115), .int .u8 (.ofNat 2), .int .u8 (.ofNat 0), .int .u8 (.ofNat 0), .int .u8 (.ofNat 0), .int .u8 (.ofNat 0), .int .u8 (.ofNat 0), .int .u8 (.ofNat 0), .int .u8 (.ofNat 0)],
  .ent 39 (.chan (some 4142)) (.int .u8 (.ofNat 0)),
  .ent 9 (.chan (some 4143)) (.int .i64 (.ofNat 0)),
  .ent 36 (.chan (some 4144)) (.int .u8 (.ofNat 0)),
  .ent 9 (.chan (some 4143)) (.int .i64 (.ofNat 8)),
  .ent 36 (.chan (some 4146)) (.int .u8 (.ofNat 0)),
  .ent 9 (.chan (some 4143)) (.int .i64 (.ofNat 16)),
  .ent 36 (.chan (some 4148)) (.int .u8 (.ofNat 0)),
  .ent 9 (.chan (some 4143)) (.int .i64 (.ofNat 24)),
  .ent 36 (.chan (some 4150)) (.int .u8 (.ofNat 0)),
  .str [.chan (some 4108)],
  .str [.chan (some 4139)]]
noncomputable def tabS : List NInfo := [⟨none, none, []⟩,
  ⟨none, none, []⟩,
  ⟨none, none, []⟩,
  ⟨none, none, []⟩,
  ⟨none, none, [⟨34, .chan (some 4100), .int .u8 (.ofNat 0), .chan (some 4105)⟩, ⟨1, .chan (some 4100), .int .u8 (.ofNat 48), .chan (some 4108)⟩]⟩,
  ⟨none, some [.chan (some 4100)], []⟩,
  ⟨none, some [.int .u8 (.ofNat 49), .int .u8 (.ofNat 48), .int .u8 (.ofNat 46), .int .u8 (.ofNat 48), .int .u8 (.ofNat 46), .int .u8 (.ofNat 48), .int .u8 (.ofNat 46), .chan (some 4100)], []⟩,
  ⟨none, some [.int .u8 (.ofNat 49), .int .u8 (.ofNat 48), .int .u8 (.ofNat 46), .int .u8 (.ofNat 48), .int .u8 (.ofNat 46), .int .u8 (.ofNat 48), .int .u8 (.ofNat 46), .chan (some 4100), .int .u8 (.ofNat 32), .int .u8 (.ofNat 104), .int .u8 (.ofNat 10)], []⟩,
  ⟨none, some [.int .u8 (.ofNat 49), .int .u8 (.ofNat 48), .int .u8 (.ofNat 46), .int .u8 (.ofNat 48), .int .u8 (.ofNat 46), .int .u8 (.ofNat 48), .int .u8 (.ofNat 46), .chan (some 4100), .int .u8 (.ofNat 32), .int .u8 (.ofNat 104)], []⟩,
  ⟨none, none, []⟩,
  ⟨none, some [.int .u8 (.ofNat 48), .int .u8 (.ofNat 46), .int .u8 (.ofNat 48), .int .u8 (.ofNat 46), .chan (some 4100)], []⟩,
  ⟨none, some [.int .u8 (.ofNat 48), .int .u8 (.ofNat 46), .chan (some 4100)], []⟩,
  ⟨none, none, [⟨39, .chan (some 4108), .int .u8 (.ofNat 0), .chan (some 4109)⟩, ⟨34, .chan (some 4108), .int .u8 (.ofNat 0), .chan (some 4128)⟩]⟩,
  ⟨none, none, []⟩,
  ⟨none, some [.int .u8 (.ofNat 10), .int .u8 (.ofNat 0), .int .u8 (.ofNat 0), .chan (some 4108)], []⟩,
  ⟨none, some [.int .u8 (.ofNat 0), .int .u8 (.ofNat 0), .int .u8 (.ofNat 0), .int .u8 (.ofNat 0), .int .u8 (.ofNat 0), .int .u8 (.ofNat 0), .int .u8 (.ofNat 0), .int .u8 (.ofNat 0), .int .u8 (.ofNat 0), .int .u8 (.ofNat 0), .int .u8 (.ofNat 255), .int .u8 (.ofNat 255), .int .u8 (.ofNat 10), .int .u8 (.ofNat 0), .int .u8 (.ofNat 0), .chan (some 4108)], []⟩,
  ⟨some (.u32, (.ofNat 0), (.ofNat 4294967295)), none, [⟨39, .chan (some 4112), .int .u8 (.ofNat 0), .chan (some 4113)⟩]⟩,
  ⟨some (.u64, (.ofNat 0), (.ofNat 18446744073709551615)), none, [⟨9, .chan (some 4113), .int .i64 (.ofNat 0), .chan (some 4114)⟩, ⟨9, .chan (some 4113), .int .i64 (.ofNat 8), .chan (some 4116)⟩, ⟨9, .chan (some 4113), .int .i64 (.ofNat 16), .chan (some 4118)⟩, ⟨9, .chan (some 4113), .int .i64 (.ofNat 24), .chan (some 4120)⟩]⟩,
  ⟨some (.u64, (.ofNat 0), (.ofNat 18446744073709551615)), none, [⟨36, .chan (some 4114), .int .u8 (.ofNat 0), .chan (some 4115)⟩]⟩,
  ⟨some (.u8, (.ofNat 0), (.ofNat 255)), none, []⟩,
  ⟨some (.u64, (.ofNat 0), (.ofNat 18446744073709551615)), none, [⟨36, .chan (some 4116), .int .u8 (.ofNat 0), .chan (some 4117)⟩]⟩,
  ⟨some (.u8, (.ofNat 0), (.ofNat 255)), none, []⟩,
  ⟨some (.u64, (.ofNat 0), (.ofNat 18446744073709551615)), none, [⟨36, .chan (some 4118), .int .u8 (.ofNat 0), .chan (some 4119)⟩]⟩,
  ⟨some (.u8, (.ofNat 0), (.ofNat 255)), none, []⟩,
  ⟨some (.u64, (.ofNat 0), (.ofNat 18446744073709551615)), none, [⟨36, .chan (some 4120), .int .u8 (.ofNat 0), .chan (some 4121)⟩]⟩,
  ⟨some (.u8, (.ofNat 0), (.ofNat 255)), none, []⟩,
  ⟨none, none, [⟨34, .chan (some 4122), .int .u8 (.ofNat 0), .chan (some 4129)⟩, ⟨1, .chan (some 4122), .int .u8 (.ofNat 48), .chan (some 4133)⟩]⟩,
  ⟨none, none, [⟨34, .chan (some 4123), .int .u8 (.ofNat 0), .chan (some 4130)⟩, ⟨1, .chan (some 4123), .int .u8 (.ofNat 48), .chan (some 4135)⟩]⟩,
  ⟨none, some [.chan (some 4122), .chan (some 4123)], []⟩,
  ⟨none, some [.int .u8 (.ofNat 49), .int .u8 (.ofNat 48), .int .u8 (.ofNat 46), .int .u8 (.ofNat 48), .int .u8 (.ofNat 46), .int .u8 (.ofNat 48), .int .u8 (.ofNat 46), .chan (some 4122), .chan (some 4123)], []⟩,
  ⟨none, some [.int .u8 (.ofNat 49), .int .u8 (.ofNat 48), .int .u8 (.ofNat 46), .int .u8 (.ofNat 48), .int .u8 (.ofNat 46), .int .u8 (.ofNat 48), .int .u8 (.ofNat 46), .chan (some 4122), .chan (some 4123), .int .u8 (.ofNat 32), .int .u8 (.ofNat 104), .int .u8 (.ofNat 10)], []⟩,
  ⟨none, some [.int .u8 (.ofNat 49), .int .u8 (.ofNat 48), .int .u8 (.ofNat 46), .int .u8 (.ofNat 48), .int .u8 (.ofNat 46), .int .u8 (.ofNat 48), .int .u8 (.ofNat 46), .chan (some 4122), .chan (some 4123), .int .u8 (.ofNat 32), .int .u8 (.ofNat 104)], []⟩,
  ⟨none, none, []⟩,
  ⟨none, none, []⟩,
  ⟨none, none, []⟩,
  ⟨none, some [.int .u8 (.ofNat 48), .int .u8 (.ofNat 46), .int .u8 (.ofNat 48), .int .u8 (.ofNat 46), .chan (some 4122), .chan (some 4123)], []⟩,
  ⟨none, some [.int .u8 (.ofNat 48), .int .u8 (.ofNat 46), .chan (some 4122), .chan (some 4123)], []⟩,
  ⟨none, none, [⟨39, .chan (some 4133), .int .u8 (.ofNat 0), .chan (some 4134)⟩]⟩,
  ⟨none, none, [⟨2, .chan (some 4134), .int .u64 (.ofNat 10), .chan (some 4136)⟩]⟩,
  ⟨none, none, [⟨39, .chan (some 4135), .int .u8 (.ofNat 0), .chan (some 4137)⟩]⟩,
  ⟨none, none, [⟨0, .chan (some 4136), .chan (some 4137), .chan (some 4138)⟩]⟩,
  ⟨none, none, []⟩,
  ⟨none, none, [⟨36, .chan (some 4138), .int .u8 (.ofNat 0), .chan (some 4139)⟩]⟩,
  ⟨none, none, []⟩,
  ⟨none, some [.int .u8 (.ofNat 10), .int .u8 (.ofNat 0), .int .u8 (.ofNat 0), .chan (some 4139)], []⟩,
  ⟨none, some [.int .u8 (.ofNat 0), .int .u8 (.ofNat 0), .int .u8 (.ofNat 0), .int .u8 (.ofNat 0), .int .u8 (.ofNat 0), .int .u8 (.ofNat 0), .int .u8 (.ofNat 0), .int .u8 (.ofNat 0), .int .u8 (.ofNat 0), .int .u8 (.ofNat 0), .int .u8 (.ofNat 255), .int .u8 (.ofNat 255), .int .u8 (.ofNat 10), .int .u8 (.ofNat 0), .int .u8 (.ofNat 0), .chan (some 4139)], []⟩,
  ⟨some (.u32, (.ofNat 0), (.ofNat 4294967295)), none, [⟨39, .chan (some 4142), .int .u8 (.ofNat 0), .chan (some 4143)⟩]⟩,
  ⟨some (.u64, (.ofNat 0), (.ofNat 18446744073709551615)), none, [⟨9, .chan (some 4143), .int .i64 (.ofNat 0), .chan (some 4144)⟩, ⟨9, .chan (some 4143), .int .i64 (.ofNat 8), .chan (some 4146)⟩, ⟨9, .chan (some 4143), .int .i64 (.ofNat 16), .chan (some 4148)⟩, ⟨9, .chan (some 4143), .int .i64 (.ofNat 24), .chan (some 4150)⟩]⟩,
  ⟨some (.u64, (.ofNat 0), (.ofNat 18446744073709551615)), none, [⟨36, .chan (some 4144), .int .u8 (.ofNat 0), .chan (some 4145)⟩]⟩,
  ⟨some (.u8, (.ofNat 0), (.ofNat 255)), none, []⟩,
  ⟨some (.u64, (.ofNat 0), (.ofNat 18446744073709551615)), none, [⟨36, .chan (some 4146), .int .u8 (.ofNat 0), .chan (some 4147)⟩]⟩,
  ⟨some (.u8, (.ofNat 0), (.ofNat 255)), none, []⟩,
  ⟨some (.u64, (.ofNat 0), (.ofNat 18446744073709551615)), none, [⟨36, .chan (some 4148), .int .u8 (.ofNat 0), .chan (some 4149)⟩]⟩,
  ⟨some (.u8, (.ofNat 0), (.ofNat 255)), none, []⟩,
  ⟨some (.u64, (.ofNat 0), (.ofNat 18446744073709551615)), none, [⟨36, .chan (some 4150), .int .u8 (.ofNat 0), .chan (some 4151)⟩]⟩,
  ⟨some (.u8, (.ofNat 0), (.ofNat 255)), none, []⟩,
  ⟨none, some [.chan (some 4108)], []⟩,
  ⟨none, some [.chan (some 4139)], []⟩]
noncomputable def tab0 : List NInfo := [⟨none, none, []⟩,
  ⟨none, none, []⟩,
  ⟨some (.i64, (.ofNat 0), (.ofNat 9)), none, [⟨36, .chan (some 4098), .int .u8 (.ofNat 0), .chan (some 4108)⟩]⟩,
  ⟨none, none, []⟩,
  ⟨some (.u8, (.ofNat 48), (.ofNat 57)), none, []⟩,
  ⟨none, none, []⟩,
  ⟨none, none, []⟩,
  ⟨none, none, []⟩,
  ⟨none, none, []⟩,
  ⟨some (.i32, (.ofNat 48), (.ofNat 57)), none, []⟩,
  ⟨none, none, []⟩,
  ⟨none, none, []⟩,
  ⟨some (.u8, (.ofNat 0), (.ofNat 9)), none, []⟩,
  ⟨some (.u64, (.ofNat 0), (.ofNat 9)), none, [⟨0, .int .u64 (.ofNat 0), .chan (some 4109), .chan (some 4109)⟩, ⟨35, .chan (some 4109), .int .u8 (.ofNat 0), .chan (some 4098)⟩, ⟨36, .chan (some 4109), .int .u8 (.ofNat 0), .chan (some 4108)⟩]⟩,
  ⟨none, none, []⟩,
  ⟨none, none, []⟩,
  ⟨none, none, []⟩,
  ⟨none, none, []⟩,
  ⟨none, none, []⟩,
  ⟨none, none, []⟩,
  ⟨none, none, []⟩,
  ⟨none, none, []⟩,
  ⟨none, none, []⟩,
  ⟨none, none, []⟩,
  ⟨none, none, []⟩,
  ⟨none, none, []⟩,
  ⟨none, none, []⟩,
  ⟨none, none, []⟩,
  ⟨none, none, []⟩,
  ⟨none, none, []⟩,
  ⟨none, none, []⟩,
  ⟨none, none, []⟩,
  ⟨some (.i32, (.ofNat 0), (.ofNat 9)), none, []⟩,
  ⟨none, none, []⟩,
  ⟨none, none, []⟩,
  ⟨none, none, []⟩,
  ⟨none, none, []⟩,
  ⟨none, none, []⟩,
  ⟨none, none, []⟩,
  ⟨none, none, []⟩,
  ⟨none, none, []⟩,
  ⟨none, none, []⟩,
  ⟨none, none, []⟩,
  ⟨none, none, []⟩,
  ⟨none, none, []⟩,
  ⟨none, none, []⟩,
  ⟨none, none, []⟩,
  ⟨none, none, []⟩,
  ⟨none, none, []⟩,
  ⟨none, none, []⟩,
  ⟨none, none, []⟩,
  ⟨none, none, []⟩,
  ⟨none, none, []⟩,
  ⟨none, none, []⟩,
  ⟨none, none, []⟩,
  ⟨none, none, []⟩,
  ⟨none, none, []⟩,
  ⟨none, none, []⟩]
noncomputable def tab1 : List NInfo := [⟨none, none, []⟩,
  ⟨none, none, []⟩,
  ⟨none, none, []⟩,
  ⟨some (.i64, (.ofNat 10), (.ofNat 99)), none, [⟨36, .chan (some 4099), .int .u8 (.ofNat 0), .chan (some 4139)⟩]⟩,
  ⟨none, none, []⟩,
  ⟨none, none, []⟩,
  ⟨none, none, []⟩,
  ⟨none, none, []⟩,
  ⟨none, none, []⟩,
  ⟨none, none, []⟩,
  ⟨none, none, []⟩,
  ⟨none, none, []⟩,
  ⟨none, none, []⟩,
  ⟨none, none, []⟩,
  ⟨none, none, []⟩,
  ⟨none, none, []⟩,
  ⟨none, none, []⟩,
  ⟨none, none, []⟩,
  ⟨none, none, []⟩,
  ⟨none, none, []⟩,
  ⟨none, none, []⟩,
  ⟨none, none, []⟩,
  ⟨none, none, []⟩,
  ⟨none, none, []⟩,
  ⟨none, none, []⟩,
  ⟨none, none, []⟩,
  ⟨some (.u8, (.ofNat 49), (.ofNat 57)), none, []⟩,
  ⟨some (.u8, (.ofNat 48), (.ofNat 57)), none, []⟩,
  ⟨none, none, []⟩,
  ⟨none, none, []⟩,
  ⟨none, none, []⟩,
  ⟨none, none, []⟩,
  ⟨none, none, []⟩,
  ⟨some (.i32, (.ofNat 49), (.ofNat 57)), none, []⟩,
  ⟨some (.i32, (.ofNat 48), (.ofNat 57)), none, []⟩,
  ⟨none, none, []⟩,
  ⟨none, none, []⟩,
  ⟨some (.u8, (.ofNat 1), (.ofNat 9)), none, []⟩,
  ⟨some (.u64, (.ofNat 1), (.ofNat 9)), none, [⟨0, .int .u64 (.ofNat 0), .chan (some 4134), .chan (some 4134)⟩]⟩,
  ⟨some (.u8, (.ofNat 0), (.ofNat 9)), none, []⟩,
  ⟨some (.u64, (.ofNat 10), (.ofNat 90)), none, []⟩,
  ⟨some (.u64, (.ofNat 0), (.ofNat 9)), none, []⟩,
  ⟨some (.u64, (.ofNat 10), (.ofNat 99)), none, [⟨13, .chan (some 4138), .chan (some 4136), .bool false⟩, ⟨35, .chan (some 4138), .int .u8 (.ofNat 0), .chan (some 4099)⟩]⟩,
  ⟨some (.u8, (.ofNat 10), (.ofNat 99)), none, []⟩,
  ⟨none, none, []⟩,
  ⟨none, none, []⟩,
  ⟨none, none, []⟩,
  ⟨none, none, []⟩,
  ⟨none, none, []⟩,
  ⟨none, none, []⟩,
  ⟨none, none, []⟩,
  ⟨none, none, []⟩,
  ⟨none, none, []⟩,
  ⟨none, none, []⟩,
  ⟨none, none, []⟩,
  ⟨none, none, []⟩,
  ⟨none, none, []⟩,
  ⟨none, none, []⟩]
noncomputable def tab : List NInfo := (unionT tabS (unionT tab0 tab1))
noncomputable def crcs : List (List Value × Value) := [([.int .u8 (.ofNat 1), .int .u8 (.ofNat 3), .int .u8 (.ofNat 0), .int .u8 (.ofNat 49), .int .u8 (.ofNat 47), .int .u8 (.ofNat 104), .int .u8 (.ofNat 0), .int .u8 (.ofNat 0), .int .u8 (.ofNat 0), .int .u8 (.ofNat 0), .int .u8 (.ofNat 0), .int .u8 (.ofNat 0), .int .u8 (.ofNat 0), .int .u8 (.ofNat 0), .int .u8 (.ofNat 0), .int .u8 (.ofNat 0), .int .u8 (.ofNat 0), .int .u8 (.ofNat 0), .int .u8 (.ofNat 0), .int .u8 (.ofNat 0), .int .u8 (.ofNat 0), .int .u8 (.ofNat 0), .int .u8 (.ofNat 88), .int .u8 (.ofNat 2), .int .u8 (.ofNat 0), .int .u8 (.ofNat 0), .int .u8 (.ofNat 0), .int .u8 (.ofNat 0), .int .u8 (.ofNat 0), .int .u8 (.ofNat 0), .int .u8 (.ofNat 88), .int .u8 (.ofNat 2), .int .u8 (.ofNat 0), .int .u8 (.ofNat 0), .int .u8 (.ofNat 0), .int .u8 (.ofNat 0), .int .u8 (.ofNat 0), .int .u8 (.ofNat 0), .int .u8 (.ofNat 0), .int .u8 (.ofNat 1), .int .u8 (.ofNat 4), .int .u8 (.ofNat 0), .int .u8 (.ofNat 10), .int .u8 (.ofNat 0), .int .u8 (.ofNat 0), .chan (some 4108), .int .u8 (.ofNat 1), .int .u8 (.ofNat 10), .int .u8 (.ofNat 0), .int .u8 (.ofNat 47), .int .u8 (.ofNat 101), .int .u8 (.ofNat 116), .int .u8 (.ofNat 99), .int .u8 (.ofNat 47), .int .u8 (.ofNat 104), .int .u8 (.ofNat 111), .int .u8 (.ofNat 115), .int .u8 (.ofNat 116), .int .u8 (.ofNat 115), .int .u8 (.ofNat 1), .int .u8 (.ofNat 0), .int .u8 (.ofNat 0), .int .u8 (.ofNat 0), .int .u8 (.ofNat 0), .int .u8 (.ofNat 0), .int .u8 (.ofNat 0), .int .u8 (.ofNat 0)], .chan (some 4112)),
  ([.int .u8 (.ofNat 1), .int .u8 (.ofNat 3), .int .u8 (.ofNat 0), .int .u8 (.ofNat 49), .int .u8 (.ofNat 47), .int .u8 (.ofNat 104), .int .u8 (.ofNat 0), .int .u8 (.ofNat 0), .int .u8 (.ofNat 0), .int .u8 (.ofNat 0), .int .u8 (.ofNat 0), .int .u8 (.ofNat 0), .int .u8 (.ofNat 0), .int .u8 (.ofNat 0), .int .u8 (.ofNat 0), .int .u8 (.ofNat 0), .int .u8 (.ofNat 0), .int .u8 (.ofNat 0), .int .u8 (.ofNat 0), .int .u8 (.ofNat 0), .int .u8 (.ofNat 0), .int .u8 (.ofNat 0), .int .u8 (.ofNat 88), .int .u8 (.ofNat 2), .int .u8 (.ofNat 0), .int .u8 (.ofNat 0), .int .u8 (.ofNat 0), .int .u8 (.ofNat 0), .int .u8 (.ofNat 0), .int .u8 (.ofNat 0), .int .u8 (.ofNat 88), .int .u8 (.ofNat 2), .int .u8 (.ofNat 0), .int .u8 (.ofNat 0), .int .u8 (.ofNat 0), .int .u8 (.ofNat 0), .int .u8 (.ofNat 0), .int .u8 (.ofNat 0), .int .u8 (.ofNat 0), .int .u8 (.ofNat 1), .int .u8 (.ofNat 4), .int .u8 (.ofNat 0), .int .u8 (.ofNat 10), .int .u8 (.ofNat 0), .int .u8 (.ofNat 0), .chan (some 4139), .int .u8 (.ofNat 1), .int .u8 (.ofNat 10), .int .u8 (.ofNat 0), .int .u8 (.ofNat 47), .int .u8 (.ofNat 101), .int .u8 (.ofNat 116), .int .u8 (.ofNat 99), .int .u8 (.ofNat 47), .int .u8 (.ofNat 104), .int .u8 (.ofNat 111), .int .u8 (.ofNat 115), .int .u8 (.ofNat 116), .int .u8 (.ofNat 115), .int .u8 (.ofNat 2), .int .u8 (.ofNat 0), .int .u8 (.ofNat 0), .int .u8 (.ofNat 0), .int .u8 (.ofNat 0), .int .u8 (.ofNat 0), .int .u8 (.ofNat 0), .int .u8 (.ofNat 0)], .chan (some 4142))]
noncomputable abbrev base (a0 : Int) (a1 : Int) (x0 : Nat) (x1 : Nat) : List Value := [.int .i64 a0, .int .i64 a1, .int .i64 (.ofNat x0), .int .i64 (.ofNat x1)]
noncomputable abbrev G (a0 : Int) (a1 : Int) (x0 : Nat) (x1 : Nat) : Sym := symL (mkVals ds (base a0 a1 x0 x1))
set_option maxRecDepth 100000 in
theorem refs_ok : refsAll ds 4 = true := by kernel_rfl
set_option maxRecDepth 100000 in
theorem nam_ok : namDs ds = true := by kernel_rfl
set_option maxRecDepth 100000 in
theorem len_ok : Nat.ble tab.length 4096 = true := by kernel_rfl
set_option maxRecDepth 100000 in
theorem crcs_ok : crcsB ds 4 crcs = true := by kernel_rfl
set_option maxRecDepth 100000 in
theorem sym_ok : symTab (ksOf ds [none, none, some .i64, some .i64]) ds 4 tabS 0 = true := by kernel_rfl
set_option maxRecDepth 100000 in
theorem tab0_all (a0 : Int) (a1 : Int) (x1 : Nat) : allB 10 (fun i0 => tabB (G a0 a1 (0 + i0) x1) tab0 0) = true := by kernel_rfl
theorem tab0_ok (a0 : Int) (a1 : Int) (x0 : Nat) (x1 : Nat) (h0 : 0 ≤ x0 ∧ x0 < 10) (h1 : 10 ≤ x1 ∧ x1 < 100) : TabOk (G a0 a1 x0 x1) tab0 := by
  have h := (allB_spec (tab0_all a0 a1 x1) (x0 - 0) (by omega))
  rw [show 0 + (x0 - 0) = x0 by omega] at h
  exact tabB_part h
set_option maxRecDepth 100000 in
theorem tab1_all (a0 : Int) (a1 : Int) (x0 : Nat) : allB 90 (fun i1 => tabB (G a0 a1 x0 (10 + i1)) tab1 0) = true := by kernel_rfl
theorem tab1_ok (a0 : Int) (a1 : Int) (x0 : Nat) (x1 : Nat) (h0 : 0 ≤ x0 ∧ x0 < 10) (h1 : 10 ≤ x1 ∧ x1 < 100) : TabOk (G a0 a1 x0 x1) tab1 := by
  have h := (allB_spec (tab1_all a0 a1 x0) (x1 - 10) (by omega))
  rw [show 10 + (x1 - 10) = x1 by omega] at h
  exact tabB_part h
theorem kinv (a0 : Int) (a1 : Int) (x0 : Nat) (x1 : Nat) (h0 : 0 ≤ x0 ∧ x0 < 10) (h1 : 10 ≤ x1 ∧ x1 < 100) : KInv (symL (base a0 a1 x0 x1)) [none, none, some .i64, some .i64] := by
  intro i k hi
  match i, hi with
  | 0, hi => cases hi
  | 1, hi => cases hi
  | 2, hi => cases hi; exact ⟨.ofNat x0, rfl, by rw [inK_iff]; show (-9223372036854775808 : Int) ≤ (x0 : Int) ∧ (x0 : Int) ≤ 9223372036854775807; omega⟩
  | 3, hi => cases hi; exact ⟨.ofNat x1, rfl, by rw [inK_iff]; show (-9223372036854775808 : Int) ≤ (x1 : Int) ∧ (x1 : Int) ≤ 9223372036854775807; omega⟩
  | n + 4, hi => cases hi
theorem named_ok (a0 : Int) (a1 : Int) (x0 : Nat) (x1 : Nat) (i : Nat) : named (G a0 a1 x0 x1 i) := symL_named' (mkVals_named (by intro v hv; simp only [base, List.mem_cons, List.not_mem_nil, or_false] at hv; rcases hv with rfl | rfl | rfl | rfl <;> trivial) nam_ok) i
theorem names_ok (a0 : Int) (a1 : Int) (x0 : Nat) (x1 : Nat) (h0 : 0 ≤ x0 ∧ x0 < 10) (h1 : 10 ≤ x1 ∧ x1 < 100) : NamesOk (G a0 a1 x0 x1) (Names.ofL tab) := namesOk_parts (named_ok a0 a1 x0 x1) len_ok (TabOk.union (symTab_part (l := base a0 a1 x0 x1) rfl (kinv a0 a1 x0 x1 h0 h1) refs_ok sym_ok) (TabOk.union (tab0_ok a0 a1 x0 x1 h0 h1 ) (tab1_ok a0 a1 x0 x1 h0 h1 )))
theorem crc_ok (a0 : Int) (a1 : Int) (x0 : Nat) (x1 : Nat) : CrcOk (G a0 a1 x0 x1) crcs := crcsB_ok (l := base a0 a1 x0 x1) refs_ok crcs_ok
theorem gb0 (a0 : Int) (a1 : Int) (x0 : Nat) (x1 : Nat) : G a0 a1 x0 x1 (4096 - 4096) = .int .i64 a0 := by
  show symL (mkVals ds (base a0 a1 x0 x1)) 0 = _
  rw [symL_low ds (base a0 a1 x0 x1) 0 (by simp)]
  rfl
theorem gb1 (a0 : Int) (a1 : Int) (x0 : Nat) (x1 : Nat) : G a0 a1 x0 x1 (4097 - 4096) = .int .i64 a1 := by
  show symL (mkVals ds (base a0 a1 x0 x1)) 1 = _
  rw [symL_low ds (base a0 a1 x0 x1) 1 (by simp)]
  rfl
theorem gb2 (a0 : Int) (a1 : Int) (x0 : Nat) (x1 : Nat) : G a0 a1 x0 x1 (4098 - 4096) = .int .i64 (.ofNat x0) := by
  show symL (mkVals ds (base a0 a1 x0 x1)) 2 = _
  rw [symL_low ds (base a0 a1 x0 x1) 2 (by simp)]
  rfl
theorem gb3 (a0 : Int) (a1 : Int) (x0 : Nat) (x1 : Nat) : G a0 a1 x0 x1 (4099 - 4096) = .int .i64 (.ofNat x1) := by
  show symL (mkVals ds (base a0 a1 x0 x1)) 3 = _
  rw [symL_low ds (base a0 a1 x0 x1) 3 (by simp)]
  rfl
noncomputable def pargs0 : List Value := [.chan (some 4098)]
noncomputable def pres0 : Value := .chan (some 4101)
noncomputable def pargs1 : List Value := [.chan (some 4098)]
noncomputable def pres1 : Value := .chan (some 4101)
noncomputable def pargs2 : List Value := [.chan (some 4099)]
noncomputable def pres2 : Value := .chan (some 4124)
noncomputable def pargs3 : List Value := [.chan (some 4099)]
noncomputable def pres3 : Value := .chan (some 4124)
end Go.Proofs.YtpficieiefgbfaaGreatDoor.topfiles.d12
