/- The law TopMerge: names by classes of its inputs, their makings, their tables, and the check of these. -/
import Derived.Test.YtpficieiefgbfaaGreatDoorVH
import Derived.Test.YtpficieiefgbfaaGreatDoorTB
import Derived.KernelRfl
namespace Go.Proofs.YtpficieiefgbfaaGreatDoor.topmerge.d13
open Go Vai
set_option linter.unusedVariables false
set_option linter.unusedSimpArgs false
noncomputable def ds : List NDef := [.idx .u8 (cn 4098) 0 [q0, q1, q2, q3, q4, q5, q6, q7, q8, q9],
  .str [cn 4100],
  .str [bn 49, bn 48, bn 46, bn 48, bn 46, bn 48, bn 46, cn 4100],
  .str [bn 49, bn 48, bn 46, bn 48, bn 46, bn 48, bn 46, cn 4100, bn 32, bn 104, bn 10, bn 49, bn 48, bn 46, bn 48, bn 46, bn 48, bn 46],
  .idx .u8 (cn 4099) 100 [q0, q0, q0, q0, q0, q0, q0, q0, q0, q0, q1, q1, q1, q1, q1, q1, q1, q1, q1, q1, q2, q2, q2, q2, q2, q2, q2, q2, q2, q2, q3, q3, q3, q3, q3, q3, q3, q3, q3, q3, q4, q4, q4, q4, q4, q4, q4, q4, q4, q4, q5, q5, q5, q5, q5, q5, q5, q5, q5, q5, q6, q6, q6, q6, q6, q6, q6, q6, q6, q6, q7, q7, q7, q7, q7, q7, q7, q7, q7, q7, q8, q8, q8, q8, q8, q8, q8, q8, q8, q8, q9, q9, q9, q9, q9, q9, q9, q9, q9, q9],
  .idx .u8 (cn 4099) 100 [q0, q1, q2, q3, q4, q5, q6, q7, q8, q9, q0, q1, q2, q3, q4, q5, q6, q7, q8, q9, q0, q1, q2, q3, q4, q5, q6, q7, q8, q9, q0, q1, q2, q3, q4, q5, q6, q7, q8, q9, q0, q1, q2, q3, q4, q5, q6, q7, q8, q9, q0, q1, q2, q3, q4, q5, q6, q7, q8, q9, q0, q1, q2, q3, q4, q5, q6, q7, q8, q9, q0, q1, q2, q3, q4, q5, q6, q7, q8, q9, q0, q1, q2, q3, q4, q5, q6, q7, q8, q9, q0, q1, q2, q3, q4, q5, q6, q7, q8, q9],
  .str [bn 49, cn 4104, cn 4105],
  .str [bn 49, bn 48, bn 46, bn 48, bn 46, bn 48, bn 46, cn 4100, bn 32, bn 104, bn 10, bn 49, bn 48, bn 46, bn 48, bn 46, bn 48, bn 46, bn 49, cn 4104, cn 4105],
  .str [bn 49, bn 48, bn 46, bn 48, bn 46, bn 48, bn 46, cn 4100, bn 32, bn 104, bn 10, bn 49, bn 48, bn 46, bn 48, bn 46, bn 48, bn 46, bn 49, cn 4104, cn 4105, bn 32, bn 104, bn 10],
  .ent 36 (cn 4099) (bn 0),
  .str [cn 4109],
  .str [bn 10, bn 0, bn 0, cn 4109],
  .str [bn 49, bn 48, bn 46, bn 48, bn 46, bn 48, bn 46, cn 4100, bn 32, bn 104],
  .ent 34 (cn 4100) (bn 0),
  .ent 34 (cn 4104) (bn 0),
  .ent 34 (cn 4105) (bn 0),
  .str [bn 49, bn 48, bn 46, bn 48, bn 46, bn 48, bn 46, bn 49, cn 4104, cn 4105, bn 32, bn 104],
  .str [bn 49, bn 48, bn 46, bn 48, bn 46, bn 48, bn 46, bn 49, cn 4104, cn 4105],
  .str [bn 48, bn 46, bn 48, bn 46, cn 4100],
  .str [bn 48, bn 46, cn 4100],
  .ent 1 (cn 4100) (bn 48),
  .ent 39 (cn 4120) (bn 0),
  .str [bn 10, bn 0, bn 0, cn 4120],
  .str [bn 48, bn 46, bn 48, bn 46, bn 49, cn 4104, cn 4105],
  .str [bn 48, bn 46, bn 49, cn 4104, cn 4105],
  .ent 1 (cn 4104) (bn 48),
  .ent 39 (cn 4125) (bn 0),
  .ent 0 (.int .u64 (.ofNat 10)) (cn 4126),
  .ent 1 (cn 4105) (bn 48),
  .ent 2 (cn 4127) (.int .u64 (.ofNat 10)),
  .ent 39 (cn 4128) (bn 0),
  .ent 0 (cn 4129) (cn 4130),
  .idx .i64 (cn 4099) 100 [.ofNat 7, .ofNat 7, .ofNat 7, .ofNat 7, .ofNat 7, .ofNat 7, .ofNat 7, .ofNat 7, .ofNat 7, .ofNat 7, .ofNat 7, .ofNat 7, .ofNat 7, .ofNat 7, .ofNat 7, .ofNat 7, .ofNat 7, .ofNat 7, .ofNat 7, .ofNat 7, .ofNat 7, .ofNat 7, .ofNat 7, .ofNat 7, .ofNat 7, .ofNat 7, .ofNat 7, .ofNat 7, .ofNat 8, .ofNat 8, .ofNat 8, .ofNat 8, .ofNat 8, .ofNat 8, .ofNat 8, .ofNat 8, .ofNat 8, .ofNat 8, .ofNat 8, .ofNat 8, .ofNat 8, .ofNat 8, .ofNat 8, .ofNat 8, .ofNat 8, .ofNat 8, .ofNat 8, .ofNat 8, .ofNat 8, .ofNat 8, .ofNat 8, .ofNat 8, .ofNat 8, .ofNat 8, .ofNat 8, .ofNat 8, .ofNat 8, .ofNat 8, .ofNat 8, .ofNat 8, .ofNat 8, .ofNat 8, .ofNat 8, .ofNat 8, .ofNat 8, .ofNat 8, .ofNat 8, .ofNat 8, .ofNat 8, .ofNat 8, .ofNat 8, .ofNat 8, .ofNat 8, .ofNat 8, .ofNat 8, .ofNat 8, .ofNat 8, .ofNat 8, .ofNat 8, .ofNat 8, .ofNat 8, .ofNat 8, .ofNat 8, .ofNat 8, .ofNat 8, .ofNat 8, .ofNat 8, .ofNat 8, .ofNat 8, .ofNat 8, .ofNat 8, .ofNat 8, .ofNat 8, .ofNat 8, .ofNat 8, .ofNat 8, .ofNat 8, .ofNat 8, .ofNat 8, .ofNat 8],
  .ent 2 (cn 4132) (jn 78913),
  .ent 38 (cn 4131) (bn 0),
  .ent 4 (cn 4134) (.int .u32 (.ofNat 100)),
  .ent 2 (cn 4135) (.int .u32 (.ofNat 2)),
  .ent 0 (cn 4136) (.int .u32 (.ofNat 1)),
  .str [bn 0, bn 0, bn 0, bn 0, bn 0, bn 0, bn 0, bn 0, bn 0, bn 0, bn 255, bn 255, bn 10, bn 0, bn 0, cn 4120],
  .str [bn 0, bn 0, bn 0, bn 0, bn 0, bn 0, bn 0, bn 0, bn 0, bn 0, bn 255, bn 255, bn 10, bn 0, bn 0, cn 4109],
  .crc [bn 1, bn 3, bn 0, bn 49, bn 47, bn 104, bn 0, bn 0, bn 0, bn 0, bn 0, bn 0, bn 0, bn 0, bn 0, bn 0, bn 0, bn 0, bn 0, bn 0, bn 0, bn 0, bn 44, bn 0, bn 0, bn 0, bn 0, bn 0, bn 0, bn 0, bn 44, bn 0, bn 0, bn 0, bn 0, bn 0, bn 0, bn 0, bn 0, bn 3, bn 4, bn 0, bn 10, bn 0, bn 0, cn 4120, bn 4, bn 0, bn 10, bn 0, bn 0, cn 4109, bn 4, bn 0, bn 10, bn 0, bn 0, bn 250, bn 1, bn 10, bn 0, bn 47, bn 101, bn 116, bn 99, bn 47, bn 104, bn 111, bn 115, bn 116, bn 115, bn 1, bn 0, bn 0, bn 0, bn 0, bn 0, bn 0, bn 0],
  .ent 39 (cn 4140) (bn 0),
  .ent 9 (cn 4141) (jn 0),
  .ent 36 (cn 4142) (bn 0),
  .ent 9 (cn 4141) (jn 8),
  .ent 36 (cn 4144) (bn 0),
  .ent 9 (cn 4141) (jn 16),
  .ent 36 (cn 4146) (bn 0),
  .ent 9 (cn 4141) (jn 24),
  .ent 36 (cn 4148) (bn 0)]
noncomputable def tabS : List NInfo := [z0,
  z0,
  z0,
  ⟨none, none, [⟨36, cn 4099, bn 0, cn 4109⟩]⟩,
  ⟨none, none, [⟨34, cn 4100, bn 0, cn 4113⟩, ⟨1, cn 4100, bn 48, cn 4120⟩]⟩,
  ⟨none, some [cn 4100], []⟩,
  ⟨none, some [bn 49, bn 48, bn 46, bn 48, bn 46, bn 48, bn 46, cn 4100], []⟩,
  ⟨none, some [bn 49, bn 48, bn 46, bn 48, bn 46, bn 48, bn 46, cn 4100, bn 32, bn 104, bn 10, bn 49, bn 48, bn 46, bn 48, bn 46, bn 48, bn 46], []⟩,
  ⟨none, none, [⟨34, cn 4104, bn 0, cn 4114⟩, ⟨1, cn 4104, bn 48, cn 4125⟩]⟩,
  ⟨none, none, [⟨34, cn 4105, bn 0, cn 4115⟩, ⟨1, cn 4105, bn 48, cn 4128⟩]⟩,
  ⟨none, some [bn 49, cn 4104, cn 4105], []⟩,
  ⟨none, some [bn 49, bn 48, bn 46, bn 48, bn 46, bn 48, bn 46, cn 4100, bn 32, bn 104, bn 10, bn 49, bn 48, bn 46, bn 48, bn 46, bn 48, bn 46, bn 49, cn 4104, cn 4105], []⟩,
  ⟨none, some [bn 49, bn 48, bn 46, bn 48, bn 46, bn 48, bn 46, cn 4100, bn 32, bn 104, bn 10, bn 49, bn 48, bn 46, bn 48, bn 46, bn 48, bn 46, bn 49, cn 4104, cn 4105, bn 32, bn 104, bn 10], []⟩,
  z0,
  ⟨none, some [cn 4109], []⟩,
  ⟨none, some [bn 10, bn 0, bn 0, cn 4109], []⟩,
  ⟨none, some [bn 49, bn 48, bn 46, bn 48, bn 46, bn 48, bn 46, cn 4100, bn 32, bn 104], []⟩,
  z0,
  z0,
  z0,
  ⟨none, some [bn 49, bn 48, bn 46, bn 48, bn 46, bn 48, bn 46, bn 49, cn 4104, cn 4105, bn 32, bn 104], []⟩,
  ⟨none, some [bn 49, bn 48, bn 46, bn 48, bn 46, bn 48, bn 46, bn 49, cn 4104, cn 4105], []⟩,
  ⟨none, some [bn 48, bn 46, bn 48, bn 46, cn 4100], []⟩,
  ⟨none, some [bn 48, bn 46, cn 4100], []⟩,
  ⟨none, none, [⟨39, cn 4120, bn 0, cn 4121⟩]⟩,
  z0,
  ⟨none, some [bn 10, bn 0, bn 0, cn 4120], []⟩,
  ⟨none, some [bn 48, bn 46, bn 48, bn 46, bn 49, cn 4104, cn 4105], []⟩,
  ⟨none, some [bn 48, bn 46, bn 49, cn 4104, cn 4105], []⟩,
  ⟨none, none, [⟨39, cn 4125, bn 0, cn 4126⟩]⟩,
  ⟨none, none, [⟨0, .int .u64 (.ofNat 10), cn 4126, cn 4127⟩]⟩,
  ⟨none, none, [⟨2, cn 4127, .int .u64 (.ofNat 10), cn 4129⟩]⟩,
  ⟨none, none, [⟨39, cn 4128, bn 0, cn 4130⟩]⟩,
  ⟨none, none, [⟨0, cn 4129, cn 4130, cn 4131⟩]⟩,
  z0,
  ⟨none, none, [⟨38, cn 4131, bn 0, cn 4134⟩]⟩,
  ⟨none, none, [⟨2, cn 4132, jn 78913, cn 4133⟩]⟩,
  z0,
  ⟨none, none, [⟨4, cn 4134, .int .u32 (.ofNat 100), cn 4135⟩]⟩,
  ⟨none, none, [⟨2, cn 4135, .int .u32 (.ofNat 2), cn 4136⟩]⟩,
  ⟨none, none, [⟨0, cn 4136, .int .u32 (.ofNat 1), cn 4137⟩]⟩,
  z0,
  ⟨none, some [bn 0, bn 0, bn 0, bn 0, bn 0, bn 0, bn 0, bn 0, bn 0, bn 0, bn 255, bn 255, bn 10, bn 0, bn 0, cn 4120], []⟩,
  ⟨none, some [bn 0, bn 0, bn 0, bn 0, bn 0, bn 0, bn 0, bn 0, bn 0, bn 0, bn 255, bn 255, bn 10, bn 0, bn 0, cn 4109], []⟩,
  ⟨some (.u32, (.ofNat 0), (.ofNat 4294967295)), none, [⟨39, cn 4140, bn 0, cn 4141⟩]⟩,
  ⟨some (.u64, (.ofNat 0), (.ofNat 18446744073709551615)), none, [⟨9, cn 4141, jn 0, cn 4142⟩, ⟨9, cn 4141, jn 8, cn 4144⟩, ⟨9, cn 4141, jn 16, cn 4146⟩, ⟨9, cn 4141, jn 24, cn 4148⟩]⟩,
  ⟨some (.u64, (.ofNat 0), (.ofNat 18446744073709551615)), none, [⟨36, cn 4142, bn 0, cn 4143⟩]⟩,
  ⟨some (.u8, (.ofNat 0), (.ofNat 255)), none, []⟩,
  ⟨some (.u64, (.ofNat 0), (.ofNat 18446744073709551615)), none, [⟨36, cn 4144, bn 0, cn 4145⟩]⟩,
  ⟨some (.u8, (.ofNat 0), (.ofNat 255)), none, []⟩,
  ⟨some (.u64, (.ofNat 0), (.ofNat 18446744073709551615)), none, [⟨36, cn 4146, bn 0, cn 4147⟩]⟩,
  ⟨some (.u8, (.ofNat 0), (.ofNat 255)), none, []⟩,
  ⟨some (.u64, (.ofNat 0), (.ofNat 18446744073709551615)), none, [⟨36, cn 4148, bn 0, cn 4149⟩]⟩,
  ⟨some (.u8, (.ofNat 0), (.ofNat 255)), none, []⟩]
noncomputable def tab0 : List NInfo := [z0,
  z0,
  ⟨some (.i64, (.ofNat 0), (.ofNat 9)), none, []⟩,
  z0,
  ⟨some (.u8, (.ofNat 48), (.ofNat 57)), none, []⟩,
  z0,
  z0,
  z0,
  z0,
  z0,
  z0,
  z0,
  z0,
  z0,
  z0,
  z0,
  z0,
  ⟨some (.i32, (.ofNat 48), (.ofNat 57)), none, []⟩,
  z0,
  z0,
  z0,
  z0,
  z0,
  z0,
  ⟨some (.u8, (.ofNat 0), (.ofNat 9)), none, []⟩,
  ⟨some (.u64, (.ofNat 0), (.ofNat 9)), none, [⟨0, .int .u64 (.ofNat 0), cn 4121, cn 4121⟩, ⟨35, cn 4121, bn 0, cn 4098⟩, ⟨36, cn 4121, bn 0, cn 4120⟩]⟩,
  z0,
  z0,
  z0,
  z0,
  z0,
  z0,
  z0,
  z0,
  z0,
  z0,
  z0,
  z0,
  z0,
  z0,
  z0,
  z0,
  z0,
  z0,
  z0,
  z0,
  z0,
  z0,
  z0,
  z0,
  z0,
  z0,
  z0,
  z0]
noncomputable def tab1 : List NInfo := [z0,
  z0,
  z0,
  ⟨some (.i64, (.ofNat 100), (.ofNat 199)), none, []⟩,
  z0,
  z0,
  z0,
  z0,
  ⟨some (.u8, (.ofNat 48), (.ofNat 57)), none, []⟩,
  ⟨some (.u8, (.ofNat 48), (.ofNat 57)), none, []⟩,
  z0,
  z0,
  z0,
  ⟨some (.u8, (.ofNat 100), (.ofNat 199)), none, []⟩,
  z0,
  z0,
  z0,
  z0,
  ⟨some (.i32, (.ofNat 48), (.ofNat 57)), none, []⟩,
  ⟨some (.i32, (.ofNat 48), (.ofNat 57)), none, []⟩,
  z0,
  z0,
  z0,
  z0,
  z0,
  z0,
  z0,
  z0,
  z0,
  ⟨some (.u8, (.ofNat 0), (.ofNat 9)), none, []⟩,
  ⟨some (.u64, (.ofNat 0), (.ofNat 9)), none, []⟩,
  ⟨some (.u64, (.ofNat 10), (.ofNat 19)), none, []⟩,
  ⟨some (.u8, (.ofNat 0), (.ofNat 9)), none, []⟩,
  ⟨some (.u64, (.ofNat 100), (.ofNat 190)), none, []⟩,
  ⟨some (.u64, (.ofNat 0), (.ofNat 9)), none, []⟩,
  ⟨some (.u64, (.ofNat 100), (.ofNat 199)), none, [⟨13, cn 4131, cn 4129, .bool false⟩, ⟨36, cn 4131, bn 0, cn 4109⟩]⟩,
  ⟨some (.i64, (.ofNat 7), (.ofNat 8)), none, []⟩,
  ⟨some (.i64, (.ofNat 552391), (.ofNat 631304)), none, [⟨9, cn 4133, .int .u64 (.ofNat 18), jn 2⟩]⟩,
  ⟨some (.u32, (.ofNat 100), (.ofNat 199)), none, [⟨3, cn 4134, .int .u32 (.ofNat 100), .int .u32 (.ofNat 1)⟩]⟩,
  ⟨some (.u32, (.ofNat 0), (.ofNat 99)), none, []⟩,
  ⟨some (.u32, (.ofNat 0), (.ofNat 198)), none, [⟨70, cn 4136, .string ⟨⟨[48, 48, 48, 49, 48, 50, 48, 51, 48, 52, 48, 53, 48, 54, 48, 55, 48, 56, 48, 57, 49, 48, 49, 49, 49, 50, 49, 51, 49, 52, 49, 53, 49, 54, 49, 55, 49, 56, 49, 57, 50, 48, 50, 49, 50, 50, 50, 51, 50, 52, 50, 53, 50, 54, 50, 55, 50, 56, 50, 57, 51, 48, 51, 49, 51, 50, 51, 51, 51, 52, 51, 53, 51, 54, 51, 55, 51, 56, 51, 57, 52, 48, 52, 49, 52, 50, 52, 51, 52, 52, 52, 53, 52, 54, 52, 55, 52, 56, 52, 57, 53, 48, 53, 49, 53, 50, 53, 51, 53, 52, 53, 53, 53, 54, 53, 55, 53, 56, 53, 57, 54, 48, 54, 49, 54, 50, 54, 51, 54, 52, 54, 53, 54, 54, 54, 55, 54, 56, 54, 57, 55, 48, 55, 49, 55, 50, 55, 51, 55, 52, 55, 53, 55, 54, 55, 55, 55, 56, 55, 57, 56, 48, 56, 49, 56, 50, 56, 51, 56, 52, 56, 53, 56, 54, 56, 55, 56, 56, 56, 57, 57, 48, 57, 49, 57, 50, 57, 51, 57, 52, 57, 53, 57, 54, 57, 55, 57, 56, 57, 57]⟩⟩, cn 4104⟩]⟩,
  ⟨some (.u32, (.ofNat 1), (.ofNat 199)), none, [⟨70, cn 4137, .string ⟨⟨[48, 48, 48, 49, 48, 50, 48, 51, 48, 52, 48, 53, 48, 54, 48, 55, 48, 56, 48, 57, 49, 48, 49, 49, 49, 50, 49, 51, 49, 52, 49, 53, 49, 54, 49, 55, 49, 56, 49, 57, 50, 48, 50, 49, 50, 50, 50, 51, 50, 52, 50, 53, 50, 54, 50, 55, 50, 56, 50, 57, 51, 48, 51, 49, 51, 50, 51, 51, 51, 52, 51, 53, 51, 54, 51, 55, 51, 56, 51, 57, 52, 48, 52, 49, 52, 50, 52, 51, 52, 52, 52, 53, 52, 54, 52, 55, 52, 56, 52, 57, 53, 48, 53, 49, 53, 50, 53, 51, 53, 52, 53, 53, 53, 54, 53, 55, 53, 56, 53, 57, 54, 48, 54, 49, 54, 50, 54, 51, 54, 52, 54, 53, 54, 54, 54, 55, 54, 56, 54, 57, 55, 48, 55, 49, 55, 50, 55, 51, 55, 52, 55, 53, 55, 54, 55, 55, 55, 56, 55, 57, 56, 48, 56, 49, 56, 50, 56, 51, 56, 52, 56, 53, 56, 54, 56, 55, 56, 56, 56, 57, 57, 48, 57, 49, 57, 50, 57, 51, 57, 52, 57, 53, 57, 54, 57, 55, 57, 56, 57, 57]⟩⟩, cn 4105⟩]⟩,
  z0,
  z0,
  z0,
  z0,
  z0,
  z0,
  z0,
  z0,
  z0,
  z0,
  z0,
  z0]
noncomputable def tab01 : List NInfo := [z0,
  z0,
  ⟨none, none, [⟨11, cn 4098, cn 4099, .bool false⟩]⟩,
  z0,
  z0,
  z0,
  z0,
  z0,
  z0,
  z0,
  z0,
  z0,
  z0,
  ⟨none, none, [⟨11, cn 4109, cn 4120, .bool false⟩]⟩,
  z0,
  z0,
  z0,
  z0,
  z0,
  z0,
  z0,
  z0,
  z0,
  z0,
  z0,
  z0,
  z0,
  z0,
  z0,
  z0,
  z0,
  z0,
  z0,
  z0,
  z0,
  z0,
  z0,
  z0,
  z0,
  z0,
  z0,
  z0,
  z0,
  z0,
  z0,
  z0,
  z0,
  z0,
  z0,
  z0,
  z0,
  z0,
  z0,
  z0]
noncomputable def tab : List NInfo := (unionT tabS (unionT tab0 (unionT tab1 tab01)))
noncomputable def crcs : List (List Value × Value) := [([bn 1, bn 3, bn 0, bn 49, bn 47, bn 104, bn 0, bn 0, bn 0, bn 0, bn 0, bn 0, bn 0, bn 0, bn 0, bn 0, bn 0, bn 0, bn 0, bn 0, bn 0, bn 0, bn 44, bn 0, bn 0, bn 0, bn 0, bn 0, bn 0, bn 0, bn 44, bn 0, bn 0, bn 0, bn 0, bn 0, bn 0, bn 0, bn 0, bn 3, bn 4, bn 0, bn 10, bn 0, bn 0, cn 4120, bn 4, bn 0, bn 10, bn 0, bn 0, cn 4109, bn 4, bn 0, bn 10, bn 0, bn 0, bn 250, bn 1, bn 10, bn 0, bn 47, bn 101, bn 116, bn 99, bn 47, bn 104, bn 111, bn 115, bn 116, bn 115, bn 1, bn 0, bn 0, bn 0, bn 0, bn 0, bn 0, bn 0], cn 4140)]
noncomputable abbrev base (a0 : Int) (a1 : Int) (x0 : Nat) (x1 : Nat) : List Value := [.int .i64 a0, .int .i64 a1, .int .i64 (.ofNat x0), .int .i64 (.ofNat x1)]
noncomputable abbrev G (a0 : Int) (a1 : Int) (x0 : Nat) (x1 : Nat) : Sym := symL (mkVals ds (base a0 a1 x0 x1))
set_option maxRecDepth 100000 in
theorem refs_ok : refsAll ds 4 = true := by kernel_rfl
set_option maxRecDepth 100000 in
theorem nam_ok : namDs ds = true := by kernel_rfl
set_option maxRecDepth 100000 in
theorem len_ok : Nat.ble tab.length 4096 = true := by kernel_rfl
set_option maxRecDepth 100000 in
theorem crcs_ok : crcsB ds 4 crcs = true := by kernel_rfl
set_option maxRecDepth 100000 in
theorem sym_ok : symTab (ksOf ds [some .i64, some .i64, some .i64, some .i64]) ds 4 tabS 0 = true := by kernel_rfl
theorem gb0 (a0 : Int) (a1 : Int) (x0 : Nat) (x1 : Nat) : G a0 a1 x0 x1 (4096 - 4096) = .int .i64 a0 := by
  show symL (mkVals ds (base a0 a1 x0 x1)) 0 = _
  rw [symL_low ds (base a0 a1 x0 x1) 0 (by simp)]
  rfl
theorem gb1 (a0 : Int) (a1 : Int) (x0 : Nat) (x1 : Nat) : G a0 a1 x0 x1 (4097 - 4096) = .int .i64 a1 := by
  show symL (mkVals ds (base a0 a1 x0 x1)) 1 = _
  rw [symL_low ds (base a0 a1 x0 x1) 1 (by simp)]
  rfl
theorem gb2 (a0 : Int) (a1 : Int) (x0 : Nat) (x1 : Nat) : G a0 a1 x0 x1 (4098 - 4096) = .int .i64 (.ofNat x0) := by
  show symL (mkVals ds (base a0 a1 x0 x1)) 2 = _
  rw [symL_low ds (base a0 a1 x0 x1) 2 (by simp)]
  rfl
theorem gb3 (a0 : Int) (a1 : Int) (x0 : Nat) (x1 : Nat) : G a0 a1 x0 x1 (4099 - 4096) = .int .i64 (.ofNat x1) := by
  show symL (mkVals ds (base a0 a1 x0 x1)) 3 = _
  rw [symL_low ds (base a0 a1 x0 x1) 3 (by simp)]
  rfl
set_option maxRecDepth 100000 in
theorem tab0_all (a0 : Int) (a1 : Int) (x1 : Nat) : allB 10 (fun i0 => tabB (G a0 a1 (0 + i0) x1) tab0 0) = true := by kernel_rfl
theorem tab0_ok (a0 : Int) (a1 : Int) (x0 : Nat) (x1 : Nat) (h0 : 0 ≤ x0 ∧ x0 < 10) (h1 : 100 ≤ x1 ∧ x1 < 200) : TabOk (G a0 a1 x0 x1) tab0 := by
  have h := (allB_spec (tab0_all a0 a1 x1) (x0 - 0) (by omega))
  rw [show 0 + (x0 - 0) = x0 by omega] at h
  exact tabB_part h
set_option maxRecDepth 100000 in
theorem tab1_all (a0 : Int) (a1 : Int) (x0 : Nat) : allB 100 (fun i1 => tabB (G a0 a1 x0 (100 + i1)) tab1 0) = true := by kernel_rfl
theorem tab1_ok (a0 : Int) (a1 : Int) (x0 : Nat) (x1 : Nat) (h0 : 0 ≤ x0 ∧ x0 < 10) (h1 : 100 ≤ x1 ∧ x1 < 200) : TabOk (G a0 a1 x0 x1) tab1 := by
  have h := (allB_spec (tab1_all a0 a1 x0) (x1 - 100) (by omega))
  rw [show 100 + (x1 - 100) = x1 by omega] at h
  exact tabB_part h
set_option maxRecDepth 100000 in
theorem val13_all (a0 : Int) (a1 : Int) (x0 : Nat) : allB 100 (fun i => vEq (G a0 a1 x0 (100 + i) 13) (.int .u8 (.ofNat (100 + i)))) = true := by kernel_rfl
theorem val13 (a0 : Int) (a1 : Int) (x0 : Nat) (x1 : Nat) (h : 100 ≤ x1 ∧ x1 < 200) : G a0 a1 x0 x1 (4109 - 4096) = .int .u8 (.ofNat x1) := by
  have h := allB_spec (val13_all a0 a1 x0) (x1 - 100) (by omega)
  rw [show 100 + (x1 - 100) = x1 by omega] at h
  exact vEq_eq _ _ h
set_option maxRecDepth 100000 in
theorem val24_all (a0 : Int) (a1 : Int) (x1 : Nat) : allB 10 (fun i => vEq (G a0 a1 (0 + i) x1 24) (.int .u8 (.ofNat (0 + i)))) = true := by kernel_rfl
theorem val24 (a0 : Int) (a1 : Int) (x0 : Nat) (x1 : Nat) (h : 0 ≤ x0 ∧ x0 < 10) : G a0 a1 x0 x1 (4120 - 4096) = .int .u8 (.ofNat x0) := by
  have h := allB_spec (val24_all a0 a1 x1) (x0 - 0) (by omega)
  rw [show 0 + (x0 - 0) = x0 by omega] at h
  exact vEq_eq _ _ h
theorem tab01_2 (a0 : Int) (a1 : Int) (x0 : Nat) (x1 : Nat) (h0 : 0 ≤ x0 ∧ x0 < 10) (h1 : 100 ≤ x1 ∧ x1 < 200) : InfoOk (G a0 a1 x0 x1) 2 ⟨none, none, [⟨11, cn 4098, cn 4099, .bool false⟩]⟩ := (infoOk_cons rfl rfl rfl (by rw [gv_chan 4098, gb2 a0 a1 x0 x1, gv_chan 4099, gb3 a0 a1 x0 x1]; exact e_eql .i64 (.ofNat x0) (.ofNat x1) false (decide_eq_false (by simp only [Int.ofNat_eq_natCast, ne_eq]; omega))) infoOk_nil)
theorem tab01_13 (a0 : Int) (a1 : Int) (x0 : Nat) (x1 : Nat) (h0 : 0 ≤ x0 ∧ x0 < 10) (h1 : 100 ≤ x1 ∧ x1 < 200) : InfoOk (G a0 a1 x0 x1) 13 ⟨none, none, [⟨11, cn 4109, cn 4120, .bool false⟩]⟩ := (infoOk_cons rfl rfl rfl (by rw [gv_chan 4109, val13 a0 a1 x0 x1 h1, gv_chan 4120, val24 a0 a1 x0 x1 h0]; exact e_eql .u8 (.ofNat x1) (.ofNat x0) false (decide_eq_false (by simp only [Int.ofNat_eq_natCast, ne_eq]; omega))) infoOk_nil)
theorem tab01_ok (a0 : Int) (a1 : Int) (x0 : Nat) (x1 : Nat) (h0 : 0 ≤ x0 ∧ x0 < 10) (h1 : 100 ≤ x1 ∧ x1 < 200) : TabOk (G a0 a1 x0 x1) tab01 := by
  intro j f hf
  match j, hf with
  | 0, hf => obtain rfl := Option.some.inj (show some (z0 : NInfo) = some f from hf); exact infoOk_nil
  | 1, hf => obtain rfl := Option.some.inj (show some (z0 : NInfo) = some f from hf); exact infoOk_nil
  | 2, hf => obtain rfl := Option.some.inj (show some (⟨none, none, [⟨11, cn 4098, cn 4099, .bool false⟩]⟩ : NInfo) = some f from hf); exact tab01_2 a0 a1 x0 x1 h0 h1 
  | 3, hf => obtain rfl := Option.some.inj (show some (z0 : NInfo) = some f from hf); exact infoOk_nil
  | 4, hf => obtain rfl := Option.some.inj (show some (z0 : NInfo) = some f from hf); exact infoOk_nil
  | 5, hf => obtain rfl := Option.some.inj (show some (z0 : NInfo) = some f from hf); exact infoOk_nil
  | 6, hf => obtain rfl := Option.some.inj (show some (z0 : NInfo) = some f from hf); exact infoOk_nil
  | 7, hf => obtain rfl := Option.some.inj (show some (z0 : NInfo) = some f from hf); exact infoOk_nil
  | 8, hf => obtain rfl := Option.some.inj (show some (z0 : NInfo) = some f from hf); exact infoOk_nil
  | 9, hf => obtain rfl := Option.some.inj (show some (z0 : NInfo) = some f from hf); exact infoOk_nil
  | 10, hf => obtain rfl := Option.some.inj (show some (z0 : NInfo) = some f from hf); exact infoOk_nil
  | 11, hf => obtain rfl := Option.some.inj (show some (z0 : NInfo) = some f from hf); exact infoOk_nil
  | 12, hf => obtain rfl := Option.some.inj (show some (z0 : NInfo) = some f from hf); exact infoOk_nil
  | 13, hf => obtain rfl := Option.some.inj (show some (⟨none, none, [⟨11, cn 4109, cn 4120, .bool false⟩]⟩ : NInfo) = some f from hf); exact tab01_13 a0 a1 x0 x1 h0 h1 
  | 14, hf => obtain rfl := Option.some.inj (show some (z0 : NInfo) = some f from hf); exact infoOk_nil
  | 15, hf => obtain rfl := Option.some.inj (show some (z0 : NInfo) = some f from hf); exact infoOk_nil
  | 16, hf => obtain rfl := Option.some.inj (show some (z0 : NInfo) = some f from hf); exact infoOk_nil
  | 17, hf => obtain rfl := Option.some.inj (show some (z0 : NInfo) = some f from hf); exact infoOk_nil
  | 18, hf => obtain rfl := Option.some.inj (show some (z0 : NInfo) = some f from hf); exact infoOk_nil
  | 19, hf => obtain rfl := Option.some.inj (show some (z0 : NInfo) = some f from hf); exact infoOk_nil
  | 20, hf => obtain rfl := Option.some.inj (show some (z0 : NInfo) = some f from hf); exact infoOk_nil
  | 21, hf => obtain rfl := Option.some.inj (show some (z0 : NInfo) = some f from hf); exact infoOk_nil
  | 22, hf => obtain rfl := Option.some.inj (show some (z0 : NInfo) = some f from hf); exact infoOk_nil
  | 23, hf => obtain rfl := Option.some.inj (show some (z0 : NInfo) = some f from hf); exact infoOk_nil
  | 24, hf => obtain rfl := Option.some.inj (show some (z0 : NInfo) = some f from hf); exact infoOk_nil
  | 25, hf => obtain rfl := Option.some.inj (show some (z0 : NInfo) = some f from hf); exact infoOk_nil
  | 26, hf => obtain rfl := Option.some.inj (show some (z0 : NInfo) = some f from hf); exact infoOk_nil
  | 27, hf => obtain rfl := Option.some.inj (show some (z0 : NInfo) = some f from hf); exact infoOk_nil
  | 28, hf => obtain rfl := Option.some.inj (show some (z0 : NInfo) = some f from hf); exact infoOk_nil
  | 29, hf => obtain rfl := Option.some.inj (show some (z0 : NInfo) = some f from hf); exact infoOk_nil
  | 30, hf => obtain rfl := Option.some.inj (show some (z0 : NInfo) = some f from hf); exact infoOk_nil
  | 31, hf => obtain rfl := Option.some.inj (show some (z0 : NInfo) = some f from hf); exact infoOk_nil
  | 32, hf => obtain rfl := Option.some.inj (show some (z0 : NInfo) = some f from hf); exact infoOk_nil
  | 33, hf => obtain rfl := Option.some.inj (show some (z0 : NInfo) = some f from hf); exact infoOk_nil
  | 34, hf => obtain rfl := Option.some.inj (show some (z0 : NInfo) = some f from hf); exact infoOk_nil
  | 35, hf => obtain rfl := Option.some.inj (show some (z0 : NInfo) = some f from hf); exact infoOk_nil
  | 36, hf => obtain rfl := Option.some.inj (show some (z0 : NInfo) = some f from hf); exact infoOk_nil
  | 37, hf => obtain rfl := Option.some.inj (show some (z0 : NInfo) = some f from hf); exact infoOk_nil
  | 38, hf => obtain rfl := Option.some.inj (show some (z0 : NInfo) = some f from hf); exact infoOk_nil
  | 39, hf => obtain rfl := Option.some.inj (show some (z0 : NInfo) = some f from hf); exact infoOk_nil
  | 40, hf => obtain rfl := Option.some.inj (show some (z0 : NInfo) = some f from hf); exact infoOk_nil
  | 41, hf => obtain rfl := Option.some.inj (show some (z0 : NInfo) = some f from hf); exact infoOk_nil
  | 42, hf => obtain rfl := Option.some.inj (show some (z0 : NInfo) = some f from hf); exact infoOk_nil
  | 43, hf => obtain rfl := Option.some.inj (show some (z0 : NInfo) = some f from hf); exact infoOk_nil
  | 44, hf => obtain rfl := Option.some.inj (show some (z0 : NInfo) = some f from hf); exact infoOk_nil
  | 45, hf => obtain rfl := Option.some.inj (show some (z0 : NInfo) = some f from hf); exact infoOk_nil
  | 46, hf => obtain rfl := Option.some.inj (show some (z0 : NInfo) = some f from hf); exact infoOk_nil
  | 47, hf => obtain rfl := Option.some.inj (show some (z0 : NInfo) = some f from hf); exact infoOk_nil
  | 48, hf => obtain rfl := Option.some.inj (show some (z0 : NInfo) = some f from hf); exact infoOk_nil
  | 49, hf => obtain rfl := Option.some.inj (show some (z0 : NInfo) = some f from hf); exact infoOk_nil
  | 50, hf => obtain rfl := Option.some.inj (show some (z0 : NInfo) = some f from hf); exact infoOk_nil
  | 51, hf => obtain rfl := Option.some.inj (show some (z0 : NInfo) = some f from hf); exact infoOk_nil
  | 52, hf => obtain rfl := Option.some.inj (show some (z0 : NInfo) = some f from hf); exact infoOk_nil
  | 53, hf => obtain rfl := Option.some.inj (show some (z0 : NInfo) = some f from hf); exact infoOk_nil
  | n + 54, hf => exact absurd hf (by simp [tab01])
theorem kinv (a0 : Int) (a1 : Int) (x0 : Nat) (x1 : Nat) (h0 : 0 ≤ x0 ∧ x0 < 10) (h1 : 100 ≤ x1 ∧ x1 < 200) (w0 : -9223372036854775808 ≤ a0 ∧ a0 ≤ 9223372036854775807) (w1 : -9223372036854775808 ≤ a1 ∧ a1 ≤ 9223372036854775807) : KInv (symL (base a0 a1 x0 x1)) [some .i64, some .i64, some .i64, some .i64] := by
  intro i k hi
  match i, hi with
  | 0, hi => cases hi; exact ⟨a0, rfl, by rw [inK_iff]; exact w0⟩
  | 1, hi => cases hi; exact ⟨a1, rfl, by rw [inK_iff]; exact w1⟩
  | 2, hi => cases hi; exact ⟨.ofNat x0, rfl, by rw [inK_iff]; show (-9223372036854775808 : Int) ≤ (x0 : Int) ∧ (x0 : Int) ≤ 9223372036854775807; omega⟩
  | 3, hi => cases hi; exact ⟨.ofNat x1, rfl, by rw [inK_iff]; show (-9223372036854775808 : Int) ≤ (x1 : Int) ∧ (x1 : Int) ≤ 9223372036854775807; omega⟩
  | n + 4, hi => cases hi
theorem named_ok (a0 : Int) (a1 : Int) (x0 : Nat) (x1 : Nat) (i : Nat) : named (G a0 a1 x0 x1 i) := symL_named' (mkVals_named (by intro v hv; simp only [base, List.mem_cons, List.not_mem_nil, or_false] at hv; rcases hv with rfl | rfl | rfl | rfl <;> trivial) nam_ok) i
theorem names_ok (a0 : Int) (a1 : Int) (x0 : Nat) (x1 : Nat) (h0 : 0 ≤ x0 ∧ x0 < 10) (h1 : 100 ≤ x1 ∧ x1 < 200) (w0 : -9223372036854775808 ≤ a0 ∧ a0 ≤ 9223372036854775807) (w1 : -9223372036854775808 ≤ a1 ∧ a1 ≤ 9223372036854775807) : NamesOk (G a0 a1 x0 x1) (Names.ofL tab) := namesOk_parts (named_ok a0 a1 x0 x1) len_ok (TabOk.union (symTab_part (l := base a0 a1 x0 x1) rfl (kinv a0 a1 x0 x1 h0 h1 w0 w1) refs_ok sym_ok) (TabOk.union (tab0_ok a0 a1 x0 x1 h0 h1 ) (TabOk.union (tab1_ok a0 a1 x0 x1 h0 h1 ) (tab01_ok a0 a1 x0 x1 h0 h1 ))))
theorem crc_ok (a0 : Int) (a1 : Int) (x0 : Nat) (x1 : Nat) : CrcOk (G a0 a1 x0 x1) crcs := crcsB_ok (l := base a0 a1 x0 x1) refs_ok crcs_ok
noncomputable def pargs0 : List Value := [cn 4098]
noncomputable def pres0 : Value := cn 4101
noncomputable def pargs1 : List Value := [cn 4099]
noncomputable def pres1 : Value := cn 4106
noncomputable def pargs2 : List Value := [cn 4098]
noncomputable def pres2 : Value := cn 4101
noncomputable def pargs3 : List Value := [cn 4131]
noncomputable def pres3 : Value := cn 4132
end Go.Proofs.YtpficieiefgbfaaGreatDoor.topmerge.d13
namespace Go.Proofs.YtpficieiefgbfaaGreatDoor.topmerge.d21
open Go Vai
set_option linter.unusedVariables false
set_option linter.unusedSimpArgs false
noncomputable def ds : List NDef := [.idx .u8 (cn 4098) 10 [q1, q1, q1, q1, q1, q1, q1, q1, q1, q1, q2, q2, q2, q2, q2, q2, q2, q2, q2, q2, q3, q3, q3, q3, q3, q3, q3, q3, q3, q3, q4, q4, q4, q4, q4, q4, q4, q4, q4, q4, q5, q5, q5, q5, q5, q5, q5, q5, q5, q5, q6, q6, q6, q6, q6, q6, q6, q6, q6, q6, q7, q7, q7, q7, q7, q7, q7, q7, q7, q7, q8, q8, q8, q8, q8, q8, q8, q8, q8, q8, q9, q9, q9, q9, q9, q9, q9, q9, q9, q9],
  .idx .u8 (cn 4098) 10 [q0, q1, q2, q3, q4, q5, q6, q7, q8, q9, q0, q1, q2, q3, q4, q5, q6, q7, q8, q9, q0, q1, q2, q3, q4, q5, q6, q7, q8, q9, q0, q1, q2, q3, q4, q5, q6, q7, q8, q9, q0, q1, q2, q3, q4, q5, q6, q7, q8, q9, q0, q1, q2, q3, q4, q5, q6, q7, q8, q9, q0, q1, q2, q3, q4, q5, q6, q7, q8, q9, q0, q1, q2, q3, q4, q5, q6, q7, q8, q9, q0, q1, q2, q3, q4, q5, q6, q7, q8, q9],
  .str [cn 4100, cn 4101],
  .str [bn 49, bn 48, bn 46, bn 48, bn 46, bn 48, bn 46, cn 4100, cn 4101],
  .str [bn 49, bn 48, bn 46, bn 48, bn 46, bn 48, bn 46, cn 4100, cn 4101, bn 32, bn 104, bn 10, bn 49, bn 48, bn 46, bn 48, bn 46, bn 48, bn 46],
  .idx .u8 (cn 4099) 0 [q0, q1, q2, q3, q4, q5, q6, q7, q8, q9],
  .str [cn 4105],
  .str [bn 49, bn 48, bn 46, bn 48, bn 46, bn 48, bn 46, cn 4100, cn 4101, bn 32, bn 104, bn 10, bn 49, bn 48, bn 46, bn 48, bn 46, bn 48, bn 46, cn 4105],
  .str [bn 49, bn 48, bn 46, bn 48, bn 46, bn 48, bn 46, cn 4100, cn 4101, bn 32, bn 104, bn 10, bn 49, bn 48, bn 46, bn 48, bn 46, bn 48, bn 46, cn 4105, bn 32, bn 104, bn 10],
  .ent 36 (cn 4099) (bn 0),
  .str [cn 4109],
  .str [bn 10, bn 0, bn 0, cn 4109],
  .str [bn 49, bn 48, bn 46, bn 48, bn 46, bn 48, bn 46, cn 4100, cn 4101, bn 32, bn 104],
  .ent 34 (cn 4100) (bn 0),
  .ent 34 (cn 4101) (bn 0),
  .ent 34 (cn 4105) (bn 0),
  .ent 34 (cn 4109) (bn 0),
  .str [bn 49, bn 48, bn 46, bn 48, bn 46, bn 48, bn 46, cn 4105, bn 32, bn 104],
  .str [bn 49, bn 48, bn 46, bn 48, bn 46, bn 48, bn 46, cn 4105],
  .str [bn 48, bn 46, bn 48, bn 46, cn 4100, cn 4101],
  .str [bn 48, bn 46, cn 4100, cn 4101],
  .ent 1 (cn 4100) (bn 48),
  .ent 39 (cn 4121) (bn 0),
  .ent 1 (cn 4101) (bn 48),
  .ent 2 (cn 4122) (.int .u64 (.ofNat 10)),
  .ent 39 (cn 4123) (bn 0),
  .ent 0 (cn 4124) (cn 4125),
  .ent 36 (cn 4126) (bn 0),
  .str [bn 10, bn 0, bn 0, cn 4127],
  .str [bn 48, bn 46, bn 48, bn 46, cn 4105],
  .str [bn 48, bn 46, cn 4105],
  .ent 39 (cn 4109) (bn 0),
  .str [bn 0, bn 0, bn 0, bn 0, bn 0, bn 0, bn 0, bn 0, bn 0, bn 0, bn 255, bn 255, bn 10, bn 0, bn 0, cn 4127],
  .str [bn 0, bn 0, bn 0, bn 0, bn 0, bn 0, bn 0, bn 0, bn 0, bn 0, bn 255, bn 255, bn 10, bn 0, bn 0, cn 4109],
  .crc [bn 1, bn 3, bn 0, bn 49, bn 47, bn 104, bn 0, bn 0, bn 0, bn 0, bn 0, bn 0, bn 0, bn 0, bn 0, bn 0, bn 0, bn 0, bn 0, bn 0, bn 0, bn 0, bn 44, bn 0, bn 0, bn 0, bn 0, bn 0, bn 0, bn 0, bn 44, bn 0, bn 0, bn 0, bn 0, bn 0, bn 0, bn 0, bn 0, bn 3, bn 4, bn 0, bn 10, bn 0, bn 0, cn 4127, bn 4, bn 0, bn 10, bn 0, bn 0, cn 4109, bn 4, bn 0, bn 10, bn 0, bn 0, bn 250, bn 1, bn 10, bn 0, bn 47, bn 101, bn 116, bn 99, bn 47, bn 104, bn 111, bn 115, bn 116, bn 115, bn 1, bn 0, bn 0, bn 0, bn 0, bn 0, bn 0, bn 0],
  .ent 39 (cn 4134) (bn 0),
  .ent 9 (cn 4135) (jn 0),
  .ent 36 (cn 4136) (bn 0),
  .ent 9 (cn 4135) (jn 8),
  .ent 36 (cn 4138) (bn 0),
  .ent 9 (cn 4135) (jn 16),
  .ent 36 (cn 4140) (bn 0),
  .ent 9 (cn 4135) (jn 24),
  .ent 36 (cn 4142) (bn 0)]
noncomputable def tabS : List NInfo := [z0,
  z0,
  z0,
  ⟨none, none, [⟨36, cn 4099, bn 0, cn 4109⟩]⟩,
  ⟨none, none, [⟨34, cn 4100, bn 0, cn 4113⟩, ⟨1, cn 4100, bn 48, cn 4121⟩]⟩,
  ⟨none, none, [⟨34, cn 4101, bn 0, cn 4114⟩, ⟨1, cn 4101, bn 48, cn 4123⟩]⟩,
  ⟨none, some [cn 4100, cn 4101], []⟩,
  ⟨none, some [bn 49, bn 48, bn 46, bn 48, bn 46, bn 48, bn 46, cn 4100, cn 4101], []⟩,
  ⟨none, some [bn 49, bn 48, bn 46, bn 48, bn 46, bn 48, bn 46, cn 4100, cn 4101, bn 32, bn 104, bn 10, bn 49, bn 48, bn 46, bn 48, bn 46, bn 48, bn 46], []⟩,
  ⟨none, none, [⟨34, cn 4105, bn 0, cn 4115⟩]⟩,
  ⟨none, some [cn 4105], []⟩,
  ⟨none, some [bn 49, bn 48, bn 46, bn 48, bn 46, bn 48, bn 46, cn 4100, cn 4101, bn 32, bn 104, bn 10, bn 49, bn 48, bn 46, bn 48, bn 46, bn 48, bn 46, cn 4105], []⟩,
  ⟨none, some [bn 49, bn 48, bn 46, bn 48, bn 46, bn 48, bn 46, cn 4100, cn 4101, bn 32, bn 104, bn 10, bn 49, bn 48, bn 46, bn 48, bn 46, bn 48, bn 46, cn 4105, bn 32, bn 104, bn 10], []⟩,
  ⟨none, none, [⟨34, cn 4109, bn 0, cn 4116⟩, ⟨39, cn 4109, bn 0, cn 4131⟩]⟩,
  ⟨none, some [cn 4109], []⟩,
  ⟨none, some [bn 10, bn 0, bn 0, cn 4109], []⟩,
  ⟨none, some [bn 49, bn 48, bn 46, bn 48, bn 46, bn 48, bn 46, cn 4100, cn 4101, bn 32, bn 104], []⟩,
  z0,
  z0,
  z0,
  z0,
  ⟨none, some [bn 49, bn 48, bn 46, bn 48, bn 46, bn 48, bn 46, cn 4105, bn 32, bn 104], []⟩,
  ⟨none, some [bn 49, bn 48, bn 46, bn 48, bn 46, bn 48, bn 46, cn 4105], []⟩,
  ⟨none, some [bn 48, bn 46, bn 48, bn 46, cn 4100, cn 4101], []⟩,
  ⟨none, some [bn 48, bn 46, cn 4100, cn 4101], []⟩,
  ⟨none, none, [⟨39, cn 4121, bn 0, cn 4122⟩]⟩,
  ⟨none, none, [⟨2, cn 4122, .int .u64 (.ofNat 10), cn 4124⟩]⟩,
  ⟨none, none, [⟨39, cn 4123, bn 0, cn 4125⟩]⟩,
  ⟨none, none, [⟨0, cn 4124, cn 4125, cn 4126⟩]⟩,
  z0,
  ⟨none, none, [⟨36, cn 4126, bn 0, cn 4127⟩]⟩,
  z0,
  ⟨none, some [bn 10, bn 0, bn 0, cn 4127], []⟩,
  ⟨none, some [bn 48, bn 46, bn 48, bn 46, cn 4105], []⟩,
  ⟨none, some [bn 48, bn 46, cn 4105], []⟩,
  z0,
  ⟨none, some [bn 0, bn 0, bn 0, bn 0, bn 0, bn 0, bn 0, bn 0, bn 0, bn 0, bn 255, bn 255, bn 10, bn 0, bn 0, cn 4127], []⟩,
  ⟨none, some [bn 0, bn 0, bn 0, bn 0, bn 0, bn 0, bn 0, bn 0, bn 0, bn 0, bn 255, bn 255, bn 10, bn 0, bn 0, cn 4109], []⟩,
  ⟨some (.u32, (.ofNat 0), (.ofNat 4294967295)), none, [⟨39, cn 4134, bn 0, cn 4135⟩]⟩,
  ⟨some (.u64, (.ofNat 0), (.ofNat 18446744073709551615)), none, [⟨9, cn 4135, jn 0, cn 4136⟩, ⟨9, cn 4135, jn 8, cn 4138⟩, ⟨9, cn 4135, jn 16, cn 4140⟩, ⟨9, cn 4135, jn 24, cn 4142⟩]⟩,
  ⟨some (.u64, (.ofNat 0), (.ofNat 18446744073709551615)), none, [⟨36, cn 4136, bn 0, cn 4137⟩]⟩,
  ⟨some (.u8, (.ofNat 0), (.ofNat 255)), none, []⟩,
  ⟨some (.u64, (.ofNat 0), (.ofNat 18446744073709551615)), none, [⟨36, cn 4138, bn 0, cn 4139⟩]⟩,
  ⟨some (.u8, (.ofNat 0), (.ofNat 255)), none, []⟩,
  ⟨some (.u64, (.ofNat 0), (.ofNat 18446744073709551615)), none, [⟨36, cn 4140, bn 0, cn 4141⟩]⟩,
  ⟨some (.u8, (.ofNat 0), (.ofNat 255)), none, []⟩,
  ⟨some (.u64, (.ofNat 0), (.ofNat 18446744073709551615)), none, [⟨36, cn 4142, bn 0, cn 4143⟩]⟩,
  ⟨some (.u8, (.ofNat 0), (.ofNat 255)), none, []⟩]
noncomputable def tab0 : List NInfo := [z0,
  z0,
  ⟨some (.i64, (.ofNat 10), (.ofNat 99)), none, []⟩,
  z0,
  ⟨some (.u8, (.ofNat 49), (.ofNat 57)), none, []⟩,
  ⟨some (.u8, (.ofNat 48), (.ofNat 57)), none, []⟩,
  z0,
  z0,
  z0,
  z0,
  z0,
  z0,
  z0,
  z0,
  z0,
  z0,
  z0,
  ⟨some (.i32, (.ofNat 49), (.ofNat 57)), none, []⟩,
  ⟨some (.i32, (.ofNat 48), (.ofNat 57)), none, []⟩,
  z0,
  z0,
  z0,
  z0,
  z0,
  z0,
  ⟨some (.u8, (.ofNat 1), (.ofNat 9)), none, []⟩,
  ⟨some (.u64, (.ofNat 1), (.ofNat 9)), none, [⟨0, .int .u64 (.ofNat 0), cn 4122, cn 4122⟩]⟩,
  ⟨some (.u8, (.ofNat 0), (.ofNat 9)), none, []⟩,
  ⟨some (.u64, (.ofNat 10), (.ofNat 90)), none, []⟩,
  ⟨some (.u64, (.ofNat 0), (.ofNat 9)), none, []⟩,
  ⟨some (.u64, (.ofNat 10), (.ofNat 99)), none, [⟨13, cn 4126, cn 4124, .bool false⟩, ⟨35, cn 4126, bn 0, cn 4098⟩]⟩,
  ⟨some (.u8, (.ofNat 10), (.ofNat 99)), none, []⟩,
  z0,
  z0,
  z0,
  z0,
  z0,
  z0,
  z0,
  z0,
  z0,
  z0,
  z0,
  z0,
  z0,
  z0,
  z0,
  z0]
noncomputable def tab1 : List NInfo := [z0,
  z0,
  z0,
  ⟨some (.i64, (.ofNat 0), (.ofNat 9)), none, []⟩,
  z0,
  z0,
  z0,
  z0,
  z0,
  ⟨some (.u8, (.ofNat 48), (.ofNat 57)), none, [⟨1, cn 4105, bn 48, cn 4109⟩]⟩,
  z0,
  z0,
  z0,
  ⟨some (.u8, (.ofNat 0), (.ofNat 9)), none, []⟩,
  z0,
  z0,
  z0,
  z0,
  z0,
  ⟨some (.i32, (.ofNat 48), (.ofNat 57)), none, []⟩,
  ⟨some (.i32, (.ofNat 0), (.ofNat 9)), none, []⟩,
  z0,
  z0,
  z0,
  z0,
  z0,
  z0,
  z0,
  z0,
  z0,
  z0,
  z0,
  z0,
  z0,
  z0,
  ⟨some (.u64, (.ofNat 0), (.ofNat 9)), none, [⟨0, .int .u64 (.ofNat 0), cn 4131, cn 4131⟩, ⟨35, cn 4131, bn 0, cn 4099⟩, ⟨36, cn 4131, bn 0, cn 4109⟩]⟩,
  z0,
  z0,
  z0,
  z0,
  z0,
  z0,
  z0,
  z0,
  z0,
  z0,
  z0,
  z0]
noncomputable def tab01 : List NInfo := [z0,
  z0,
  ⟨none, none, [⟨11, cn 4098, cn 4099, .bool false⟩]⟩,
  z0,
  z0,
  z0,
  z0,
  z0,
  z0,
  z0,
  z0,
  z0,
  z0,
  ⟨none, none, [⟨11, cn 4109, cn 4127, .bool false⟩]⟩,
  z0,
  z0,
  z0,
  z0,
  z0,
  z0,
  z0,
  z0,
  z0,
  z0,
  z0,
  z0,
  z0,
  z0,
  z0,
  z0,
  z0,
  z0,
  z0,
  z0,
  z0,
  z0,
  z0,
  z0,
  z0,
  z0,
  z0,
  z0,
  z0,
  z0,
  z0,
  z0,
  z0,
  z0]
noncomputable def tab : List NInfo := (unionT tabS (unionT tab0 (unionT tab1 tab01)))
noncomputable def crcs : List (List Value × Value) := [([bn 1, bn 3, bn 0, bn 49, bn 47, bn 104, bn 0, bn 0, bn 0, bn 0, bn 0, bn 0, bn 0, bn 0, bn 0, bn 0, bn 0, bn 0, bn 0, bn 0, bn 0, bn 0, bn 44, bn 0, bn 0, bn 0, bn 0, bn 0, bn 0, bn 0, bn 44, bn 0, bn 0, bn 0, bn 0, bn 0, bn 0, bn 0, bn 0, bn 3, bn 4, bn 0, bn 10, bn 0, bn 0, cn 4127, bn 4, bn 0, bn 10, bn 0, bn 0, cn 4109, bn 4, bn 0, bn 10, bn 0, bn 0, bn 250, bn 1, bn 10, bn 0, bn 47, bn 101, bn 116, bn 99, bn 47, bn 104, bn 111, bn 115, bn 116, bn 115, bn 1, bn 0, bn 0, bn 0, bn 0, bn 0, bn 0, bn 0], cn 4134)]
noncomputable abbrev base (a0 : Int) (a1 : Int) (x0 : Nat) (x1 : Nat) : List Value := [.int .i64 a0, .int .i64 a1, .int .i64 (.ofNat x0), .int .i64 (.ofNat x1)]
noncomputable abbrev G (a0 : Int) (a1 : Int) (x0 : Nat) (x1 : Nat) : Sym := symL (mkVals ds (base a0 a1 x0 x1))
set_option maxRecDepth 100000 in
theorem refs_ok : refsAll ds 4 = true := by kernel_rfl
set_option maxRecDepth 100000 in
theorem nam_ok : namDs ds = true := by kernel_rfl
set_option maxRecDepth 100000 in
theorem len_ok : Nat.ble tab.length 4096 = true := by kernel_rfl
set_option maxRecDepth 100000 in
theorem crcs_ok : crcsB ds 4 crcs = true := by kernel_rfl
set_option maxRecDepth 100000 in
theorem sym_ok : symTab (ksOf ds [some .i64, some .i64, some .i64, some .i64]) ds 4 tabS 0 = true := by kernel_rfl
theorem gb0 (a0 : Int) (a1 : Int) (x0 : Nat) (x1 : Nat) : G a0 a1 x0 x1 (4096 - 4096) = .int .i64 a0 := by
  show symL (mkVals ds (base a0 a1 x0 x1)) 0 = _
  rw [symL_low ds (base a0 a1 x0 x1) 0 (by simp)]
  rfl
theorem gb1 (a0 : Int) (a1 : Int) (x0 : Nat) (x1 : Nat) : G a0 a1 x0 x1 (4097 - 4096) = .int .i64 a1 := by
  show symL (mkVals ds (base a0 a1 x0 x1)) 1 = _
  rw [symL_low ds (base a0 a1 x0 x1) 1 (by simp)]
  rfl
theorem gb2 (a0 : Int) (a1 : Int) (x0 : Nat) (x1 : Nat) : G a0 a1 x0 x1 (4098 - 4096) = .int .i64 (.ofNat x0) := by
  show symL (mkVals ds (base a0 a1 x0 x1)) 2 = _
  rw [symL_low ds (base a0 a1 x0 x1) 2 (by simp)]
  rfl
theorem gb3 (a0 : Int) (a1 : Int) (x0 : Nat) (x1 : Nat) : G a0 a1 x0 x1 (4099 - 4096) = .int .i64 (.ofNat x1) := by
  show symL (mkVals ds (base a0 a1 x0 x1)) 3 = _
  rw [symL_low ds (base a0 a1 x0 x1) 3 (by simp)]
  rfl
set_option maxRecDepth 100000 in
theorem tab0_all (a0 : Int) (a1 : Int) (x1 : Nat) : allB 90 (fun i0 => tabB (G a0 a1 (10 + i0) x1) tab0 0) = true := by kernel_rfl
theorem tab0_ok (a0 : Int) (a1 : Int) (x0 : Nat) (x1 : Nat) (h0 : 10 ≤ x0 ∧ x0 < 100) (h1 : 0 ≤ x1 ∧ x1 < 10) : TabOk (G a0 a1 x0 x1) tab0 := by
  have h := (allB_spec (tab0_all a0 a1 x1) (x0 - 10) (by omega))
  rw [show 10 + (x0 - 10) = x0 by omega] at h
  exact tabB_part h
set_option maxRecDepth 100000 in
theorem tab1_all (a0 : Int) (a1 : Int) (x0 : Nat) : allB 10 (fun i1 => tabB (G a0 a1 x0 (0 + i1)) tab1 0) = true := by kernel_rfl
theorem tab1_ok (a0 : Int) (a1 : Int) (x0 : Nat) (x1 : Nat) (h0 : 10 ≤ x0 ∧ x0 < 100) (h1 : 0 ≤ x1 ∧ x1 < 10) : TabOk (G a0 a1 x0 x1) tab1 := by
  have h := (allB_spec (tab1_all a0 a1 x0) (x1 - 0) (by omega))
  rw [show 0 + (x1 - 0) = x1 by omega] at h
  exact tabB_part h
set_option maxRecDepth 100000 in
theorem val13_all (a0 : Int) (a1 : Int) (x0 : Nat) : allB 10 (fun i => vEq (G a0 a1 x0 (0 + i) 13) (.int .u8 (.ofNat (0 + i)))) = true := by kernel_rfl
theorem val13 (a0 : Int) (a1 : Int) (x0 : Nat) (x1 : Nat) (h : 0 ≤ x1 ∧ x1 < 10) : G a0 a1 x0 x1 (4109 - 4096) = .int .u8 (.ofNat x1) := by
  have h := allB_spec (val13_all a0 a1 x0) (x1 - 0) (by omega)
  rw [show 0 + (x1 - 0) = x1 by omega] at h
  exact vEq_eq _ _ h
set_option maxRecDepth 100000 in
theorem val31_all (a0 : Int) (a1 : Int) (x1 : Nat) : allB 90 (fun i => vEq (G a0 a1 (10 + i) x1 31) (.int .u8 (.ofNat (10 + i)))) = true := by kernel_rfl
theorem val31 (a0 : Int) (a1 : Int) (x0 : Nat) (x1 : Nat) (h : 10 ≤ x0 ∧ x0 < 100) : G a0 a1 x0 x1 (4127 - 4096) = .int .u8 (.ofNat x0) := by
  have h := allB_spec (val31_all a0 a1 x1) (x0 - 10) (by omega)
  rw [show 10 + (x0 - 10) = x0 by omega] at h
  exact vEq_eq _ _ h
theorem tab01_2 (a0 : Int) (a1 : Int) (x0 : Nat) (x1 : Nat) (h0 : 10 ≤ x0 ∧ x0 < 100) (h1 : 0 ≤ x1 ∧ x1 < 10) : InfoOk (G a0 a1 x0 x1) 2 ⟨none, none, [⟨11, cn 4098, cn 4099, .bool false⟩]⟩ := (infoOk_cons rfl rfl rfl (by rw [gv_chan 4098, gb2 a0 a1 x0 x1, gv_chan 4099, gb3 a0 a1 x0 x1]; exact e_eql .i64 (.ofNat x0) (.ofNat x1) false (decide_eq_false (by simp only [Int.ofNat_eq_natCast, ne_eq]; omega))) infoOk_nil)
theorem tab01_13 (a0 : Int) (a1 : Int) (x0 : Nat) (x1 : Nat) (h0 : 10 ≤ x0 ∧ x0 < 100) (h1 : 0 ≤ x1 ∧ x1 < 10) : InfoOk (G a0 a1 x0 x1) 13 ⟨none, none, [⟨11, cn 4109, cn 4127, .bool false⟩]⟩ := (infoOk_cons rfl rfl rfl (by rw [gv_chan 4109, val13 a0 a1 x0 x1 h1, gv_chan 4127, val31 a0 a1 x0 x1 h0]; exact e_eql .u8 (.ofNat x1) (.ofNat x0) false (decide_eq_false (by simp only [Int.ofNat_eq_natCast, ne_eq]; omega))) infoOk_nil)
theorem tab01_ok (a0 : Int) (a1 : Int) (x0 : Nat) (x1 : Nat) (h0 : 10 ≤ x0 ∧ x0 < 100) (h1 : 0 ≤ x1 ∧ x1 < 10) : TabOk (G a0 a1 x0 x1) tab01 := by
  intro j f hf
  match j, hf with
  | 0, hf => obtain rfl := Option.some.inj (show some (z0 : NInfo) = some f from hf); exact infoOk_nil
  | 1, hf => obtain rfl := Option.some.inj (show some (z0 : NInfo) = some f from hf); exact infoOk_nil
  | 2, hf => obtain rfl := Option.some.inj (show some (⟨none, none, [⟨11, cn 4098, cn 4099, .bool false⟩]⟩ : NInfo) = some f from hf); exact tab01_2 a0 a1 x0 x1 h0 h1 
  | 3, hf => obtain rfl := Option.some.inj (show some (z0 : NInfo) = some f from hf); exact infoOk_nil
  | 4, hf => obtain rfl := Option.some.inj (show some (z0 : NInfo) = some f from hf); exact infoOk_nil
  | 5, hf => obtain rfl := Option.some.inj (show some (z0 : NInfo) = some f from hf); exact infoOk_nil
  | 6, hf => obtain rfl := Option.some.inj (show some (z0 : NInfo) = some f from hf); exact infoOk_nil
  | 7, hf => obtain rfl := Option.some.inj (show some (z0 : NInfo) = some f from hf); exact infoOk_nil
  | 8, hf => obtain rfl := Option.some.inj (show some (z0 : NInfo) = some f from hf); exact infoOk_nil
  | 9, hf => obtain rfl := Option.some.inj (show some (z0 : NInfo) = some f from hf); exact infoOk_nil
  | 10, hf => obtain rfl := Option.some.inj (show some (z0 : NInfo) = some f from hf); exact infoOk_nil
  | 11, hf => obtain rfl := Option.some.inj (show some (z0 : NInfo) = some f from hf); exact infoOk_nil
  | 12, hf => obtain rfl := Option.some.inj (show some (z0 : NInfo) = some f from hf); exact infoOk_nil
  | 13, hf => obtain rfl := Option.some.inj (show some (⟨none, none, [⟨11, cn 4109, cn 4127, .bool false⟩]⟩ : NInfo) = some f from hf); exact tab01_13 a0 a1 x0 x1 h0 h1 
  | 14, hf => obtain rfl := Option.some.inj (show some (z0 : NInfo) = some f from hf); exact infoOk_nil
  | 15, hf => obtain rfl := Option.some.inj (show some (z0 : NInfo) = some f from hf); exact infoOk_nil
  | 16, hf => obtain rfl := Option.some.inj (show some (z0 : NInfo) = some f from hf); exact infoOk_nil
  | 17, hf => obtain rfl := Option.some.inj (show some (z0 : NInfo) = some f from hf); exact infoOk_nil
  | 18, hf => obtain rfl := Option.some.inj (show some (z0 : NInfo) = some f from hf); exact infoOk_nil
  | 19, hf => obtain rfl := Option.some.inj (show some (z0 : NInfo) = some f from hf); exact infoOk_nil
  | 20, hf => obtain rfl := Option.some.inj (show some (z0 : NInfo) = some f from hf); exact infoOk_nil
  | 21, hf => obtain rfl := Option.some.inj (show some (z0 : NInfo) = some f from hf); exact infoOk_nil
  | 22, hf => obtain rfl := Option.some.inj (show some (z0 : NInfo) = some f from hf); exact infoOk_nil
  | 23, hf => obtain rfl := Option.some.inj (show some (z0 : NInfo) = some f from hf); exact infoOk_nil
  | 24, hf => obtain rfl := Option.some.inj (show some (z0 : NInfo) = some f from hf); exact infoOk_nil
  | 25, hf => obtain rfl := Option.some.inj (show some (z0 : NInfo) = some f from hf); exact infoOk_nil
  | 26, hf => obtain rfl := Option.some.inj (show some (z0 : NInfo) = some f from hf); exact infoOk_nil
  | 27, hf => obtain rfl := Option.some.inj (show some (z0 : NInfo) = some f from hf); exact infoOk_nil
  | 28, hf => obtain rfl := Option.some.inj (show some (z0 : NInfo) = some f from hf); exact infoOk_nil
  | 29, hf => obtain rfl := Option.some.inj (show some (z0 : NInfo) = some f from hf); exact infoOk_nil
  | 30, hf => obtain rfl := Option.some.inj (show some (z0 : NInfo) = some f from hf); exact infoOk_nil
  | 31, hf => obtain rfl := Option.some.inj (show some (z0 : NInfo) = some f from hf); exact infoOk_nil
  | 32, hf => obtain rfl := Option.some.inj (show some (z0 : NInfo) = some f from hf); exact infoOk_nil
  | 33, hf => obtain rfl := Option.some.inj (show some (z0 : NInfo) = some f from hf); exact infoOk_nil
  | 34, hf => obtain rfl := Option.some.inj (show some (z0 : NInfo) = some f from hf); exact infoOk_nil
  | 35, hf => obtain rfl := Option.some.inj (show some (z0 : NInfo) = some f from hf); exact infoOk_nil
  | 36, hf => obtain rfl := Option.some.inj (show some (z0 : NInfo) = some f from hf); exact infoOk_nil
  | 37, hf => obtain rfl := Option.some.inj (show some (z0 : NInfo) = some f from hf); exact infoOk_nil
  | 38, hf => obtain rfl := Option.some.inj (show some (z0 : NInfo) = some f from hf); exact infoOk_nil
  | 39, hf => obtain rfl := Option.some.inj (show some (z0 : NInfo) = some f from hf); exact infoOk_nil
  | 40, hf => obtain rfl := Option.some.inj (show some (z0 : NInfo) = some f from hf); exact infoOk_nil
  | 41, hf => obtain rfl := Option.some.inj (show some (z0 : NInfo) = some f from hf); exact infoOk_nil
  | 42, hf => obtain rfl := Option.some.inj (show some (z0 : NInfo) = some f from hf); exact infoOk_nil
  | 43, hf => obtain rfl := Option.some.inj (show some (z0 : NInfo) = some f from hf); exact infoOk_nil
  | 44, hf => obtain rfl := Option.some.inj (show some (z0 : NInfo) = some f from hf); exact infoOk_nil
  | 45, hf => obtain rfl := Option.some.inj (show some (z0 : NInfo) = some f from hf); exact infoOk_nil
  | 46, hf => obtain rfl := Option.some.inj (show some (z0 : NInfo) = some f from hf); exact infoOk_nil
  | 47, hf => obtain rfl := Option.some.inj (show some (z0 : NInfo) = some f from hf); exact infoOk_nil
  | n + 48, hf => exact absurd hf (by simp [tab01])
theorem kinv (a0 : Int) (a1 : Int) (x0 : Nat) (x1 : Nat) (h0 : 10 ≤ x0 ∧ x0 < 100) (h1 : 0 ≤ x1 ∧ x1 < 10) (w0 : -9223372036854775808 ≤ a0 ∧ a0 ≤ 9223372036854775807) (w1 : -9223372036854775808 ≤ a1 ∧ a1 ≤ 9223372036854775807) : KInv (symL (base a0 a1 x0 x1)) [some .i64, some .i64, some .i64, some .i64] := by
  intro i k hi
  match i, hi with
  | 0, hi => cases hi; exact ⟨a0, rfl, by rw [inK_iff]; exact w0⟩
  | 1, hi => cases hi; exact ⟨a1, rfl, by rw [inK_iff]; exact w1⟩
  | 2, hi => cases hi; exact ⟨.ofNat x0, rfl, by rw [inK_iff]; show (-9223372036854775808 : Int) ≤ (x0 : Int) ∧ (x0 : Int) ≤ 9223372036854775807; omega⟩
  | 3, hi => cases hi; exact ⟨.ofNat x1, rfl, by rw [inK_iff]; show (-9223372036854775808 : Int) ≤ (x1 : Int) ∧ (x1 : Int) ≤ 9223372036854775807; omega⟩
  | n + 4, hi => cases hi
theorem named_ok (a0 : Int) (a1 : Int) (x0 : Nat) (x1 : Nat) (i : Nat) : named (G a0 a1 x0 x1 i) := symL_named' (mkVals_named (by intro v hv; simp only [base, List.mem_cons, List.not_mem_nil, or_false] at hv; rcases hv with rfl | rfl | rfl | rfl <;> trivial) nam_ok) i
theorem names_ok (a0 : Int) (a1 : Int) (x0 : Nat) (x1 : Nat) (h0 : 10 ≤ x0 ∧ x0 < 100) (h1 : 0 ≤ x1 ∧ x1 < 10) (w0 : -9223372036854775808 ≤ a0 ∧ a0 ≤ 9223372036854775807) (w1 : -9223372036854775808 ≤ a1 ∧ a1 ≤ 9223372036854775807) : NamesOk (G a0 a1 x0 x1) (Names.ofL tab) := namesOk_parts (named_ok a0 a1 x0 x1) len_ok (TabOk.union (symTab_part (l := base a0 a1 x0 x1) rfl (kinv a0 a1 x0 x1 h0 h1 w0 w1) refs_ok sym_ok) (TabOk.union (tab0_ok a0 a1 x0 x1 h0 h1 ) (TabOk.union (tab1_ok a0 a1 x0 x1 h0 h1 ) (tab01_ok a0 a1 x0 x1 h0 h1 ))))
theorem crc_ok (a0 : Int) (a1 : Int) (x0 : Nat) (x1 : Nat) : CrcOk (G a0 a1 x0 x1) crcs := crcsB_ok (l := base a0 a1 x0 x1) refs_ok crcs_ok
noncomputable def pargs0 : List Value := [cn 4098]
noncomputable def pres0 : Value := cn 4102
noncomputable def pargs1 : List Value := [cn 4099]
noncomputable def pres1 : Value := cn 4106
noncomputable def pargs2 : List Value := [cn 4098]
noncomputable def pres2 : Value := cn 4102
noncomputable def pargs3 : List Value := [cn 4099]
noncomputable def pres3 : Value := cn 4106
end Go.Proofs.YtpficieiefgbfaaGreatDoor.topmerge.d21
namespace Go.Proofs.YtpficieiefgbfaaGreatDoor.topmerge.d23
open Go Vai
set_option linter.unusedVariables false
set_option linter.unusedSimpArgs false
noncomputable def ds : List NDef := [.idx .u8 (cn 4098) 10 [q1, q1, q1, q1, q1, q1, q1, q1, q1, q1, q2, q2, q2, q2, q2, q2, q2, q2, q2, q2, q3, q3, q3, q3, q3, q3, q3, q3, q3, q3, q4, q4, q4, q4, q4, q4, q4, q4, q4, q4, q5, q5, q5, q5, q5, q5, q5, q5, q5, q5, q6, q6, q6, q6, q6, q6, q6, q6, q6, q6, q7, q7, q7, q7, q7, q7, q7, q7, q7, q7, q8, q8, q8, q8, q8, q8, q8, q8, q8, q8, q9, q9, q9, q9, q9, q9, q9, q9, q9, q9],
  .idx .u8 (cn 4098) 10 [q0, q1, q2, q3, q4, q5, q6, q7, q8, q9, q0, q1, q2, q3, q4, q5, q6, q7, q8, q9, q0, q1, q2, q3, q4, q5, q6, q7, q8, q9, q0, q1, q2, q3, q4, q5, q6, q7, q8, q9, q0, q1, q2, q3, q4, q5, q6, q7, q8, q9, q0, q1, q2, q3, q4, q5, q6, q7, q8, q9, q0, q1, q2, q3, q4, q5, q6, q7, q8, q9, q0, q1, q2, q3, q4, q5, q6, q7, q8, q9, q0, q1, q2, q3, q4, q5, q6, q7, q8, q9],
  .str [cn 4100, cn 4101],
  .str [bn 49, bn 48, bn 46, bn 48, bn 46, bn 48, bn 46, cn 4100, cn 4101],
  .str [bn 49, bn 48, bn 46, bn 48, bn 46, bn 48, bn 46, cn 4100, cn 4101, bn 32, bn 104, bn 10, bn 49, bn 48, bn 46, bn 48, bn 46, bn 48, bn 46],
  .idx .u8 (cn 4099) 100 [q0, q0, q0, q0, q0, q0, q0, q0, q0, q0, q1, q1, q1, q1, q1, q1, q1, q1, q1, q1, q2, q2, q2, q2, q2, q2, q2, q2, q2, q2, q3, q3, q3, q3, q3, q3, q3, q3, q3, q3, q4, q4, q4, q4, q4, q4, q4, q4, q4, q4, q5, q5, q5, q5, q5, q5, q5, q5, q5, q5, q6, q6, q6, q6, q6, q6, q6, q6, q6, q6, q7, q7, q7, q7, q7, q7, q7, q7, q7, q7, q8, q8, q8, q8, q8, q8, q8, q8, q8, q8, q9, q9, q9, q9, q9, q9, q9, q9, q9, q9],
  .idx .u8 (cn 4099) 100 [q0, q1, q2, q3, q4, q5, q6, q7, q8, q9, q0, q1, q2, q3, q4, q5, q6, q7, q8, q9, q0, q1, q2, q3, q4, q5, q6, q7, q8, q9, q0, q1, q2, q3, q4, q5, q6, q7, q8, q9, q0, q1, q2, q3, q4, q5, q6, q7, q8, q9, q0, q1, q2, q3, q4, q5, q6, q7, q8, q9, q0, q1, q2, q3, q4, q5, q6, q7, q8, q9, q0, q1, q2, q3, q4, q5, q6, q7, q8, q9, q0, q1, q2, q3, q4, q5, q6, q7, q8, q9, q0, q1, q2, q3, q4, q5, q6, q7, q8, q9],
  .str [bn 49, cn 4105, cn 4106],
  .str [bn 49, bn 48, bn 46, bn 48, bn 46, bn 48, bn 46, cn 4100, cn 4101, bn 32, bn 104, bn 10, bn 49, bn 48, bn 46, bn 48, bn 46, bn 48, bn 46, bn 49, cn 4105, cn 4106],
  .str [bn 49, bn 48, bn 46, bn 48, bn 46, bn 48, bn 46, cn 4100, cn 4101, bn 32, bn 104, bn 10, bn 49, bn 48, bn 46, bn 48, bn 46, bn 48, bn 46, bn 49, cn 4105, cn 4106, bn 32, bn 104, bn 10],
  .ent 36 (cn 4099) (bn 0),
  .str [cn 4110],
  .str [bn 10, bn 0, bn 0, cn 4110],
  .str [bn 49, bn 48, bn 46, bn 48, bn 46, bn 48, bn 46, cn 4100, cn 4101, bn 32, bn 104],
  .ent 34 (cn 4100) (bn 0),
  .ent 34 (cn 4101) (bn 0),
  .ent 34 (cn 4105) (bn 0),
  .ent 34 (cn 4106) (bn 0),
  .str [bn 49, bn 48, bn 46, bn 48, bn 46, bn 48, bn 46, bn 49, cn 4105, cn 4106, bn 32, bn 104],
  .str [bn 49, bn 48, bn 46, bn 48, bn 46, bn 48, bn 46, bn 49, cn 4105, cn 4106],
  .str [bn 48, bn 46, bn 48, bn 46, cn 4100, cn 4101],
  .str [bn 48, bn 46, cn 4100, cn 4101],
  .ent 1 (cn 4100) (bn 48),
  .ent 39 (cn 4122) (bn 0),
  .ent 1 (cn 4101) (bn 48),
  .ent 2 (cn 4123) (.int .u64 (.ofNat 10)),
  .ent 39 (cn 4124) (bn 0),
  .ent 0 (cn 4125) (cn 4126),
  .ent 36 (cn 4127) (bn 0),
  .str [bn 10, bn 0, bn 0, cn 4128],
  .str [bn 48, bn 46, bn 48, bn 46, bn 49, cn 4105, cn 4106],
  .str [bn 48, bn 46, bn 49, cn 4105, cn 4106],
  .ent 1 (cn 4105) (bn 48),
  .ent 39 (cn 4132) (bn 0),
  .ent 0 (.int .u64 (.ofNat 10)) (cn 4133),
  .ent 1 (cn 4106) (bn 48),
  .ent 2 (cn 4134) (.int .u64 (.ofNat 10)),
  .ent 39 (cn 4135) (bn 0),
  .ent 0 (cn 4136) (cn 4137),
  .idx .i64 (cn 4099) 100 [.ofNat 7, .ofNat 7, .ofNat 7, .ofNat 7, .ofNat 7, .ofNat 7, .ofNat 7, .ofNat 7, .ofNat 7, .ofNat 7, .ofNat 7, .ofNat 7, .ofNat 7, .ofNat 7, .ofNat 7, .ofNat 7, .ofNat 7, .ofNat 7, .ofNat 7, .ofNat 7, .ofNat 7, .ofNat 7, .ofNat 7, .ofNat 7, .ofNat 7, .ofNat 7, .ofNat 7, .ofNat 7, .ofNat 8, .ofNat 8, .ofNat 8, .ofNat 8, .ofNat 8, .ofNat 8, .ofNat 8, .ofNat 8, .ofNat 8, .ofNat 8, .ofNat 8, .ofNat 8, .ofNat 8, .ofNat 8, .ofNat 8, .ofNat 8, .ofNat 8, .ofNat 8, .ofNat 8, .ofNat 8, .ofNat 8, .ofNat 8, .ofNat 8, .ofNat 8, .ofNat 8, .ofNat 8, .ofNat 8, .ofNat 8, .ofNat 8, .ofNat 8, .ofNat 8, .ofNat 8, .ofNat 8, .ofNat 8, .ofNat 8, .ofNat 8, .ofNat 8, .ofNat 8, .ofNat 8, .ofNat 8, .ofNat 8, .ofNat 8, .ofNat 8, .ofNat 8, .ofNat 8, .ofNat 8, .ofNat 8, .ofNat 8, .ofNat 8, .ofNat 8, .ofNat 8, .ofNat 8, .ofNat 8, .ofNat 8, .ofNat 8, .ofNat 8, .ofNat 8, .ofNat 8, .ofNat 8, .ofNat 8, .ofNat 8, .ofNat 8, .ofNat 8, .ofNat 8, .ofNat 8, .ofNat 8, .ofNat 8, .ofNat 8, .ofNat 8, .ofNat 8, .ofNat 8, .ofNat 8],
  .ent 2 (cn 4139) (jn 78913),
  .ent 38 (cn 4138) (bn 0),
  .ent 4 (cn 4141) (.int .u32 (.ofNat 100)),
  .ent 2 (cn 4142) (.int .u32 (.ofNat 2)),
  .ent 0 (cn 4143) (.int .u32 (.ofNat 1)),
  .str [bn 0, bn 0, bn 0, bn 0, bn 0, bn 0, bn 0, bn 0, bn 0, bn 0, bn 255, bn 255, bn 10, bn 0, bn 0, cn 4128],
  .str [bn 0, bn 0, bn 0, bn 0, bn 0, bn 0, bn 0, bn 0, bn 0, bn 0, bn 255, bn 255, bn 10, bn 0, bn 0, cn 4110],
  .crc [bn 1, bn 3, bn 0, bn 49, bn 47, bn 104, bn 0, bn 0, bn 0, bn 0, bn 0, bn 0, bn 0, bn 0, bn 0, bn 0, bn 0, bn 0, bn 0, bn 0, bn 0, bn 0, bn 44, bn 0, bn 0, bn 0, bn 0, bn 0, bn 0, bn 0, bn 44, bn 0, bn 0, bn 0, bn 0, bn 0, bn 0, bn 0, bn 0, bn 3, bn 4, bn 0, bn 10, bn 0, bn 0, cn 4128, bn 4, bn 0, bn 10, bn 0, bn 0, cn 4110, bn 4, bn 0, bn 10, bn 0, bn 0, bn 250, bn 1, bn 10, bn 0, bn 47, bn 101, bn 116, bn 99, bn 47, bn 104, bn 111, bn 115, bn 116, bn 115, bn 1, bn 0, bn 0, bn 0, bn 0, bn 0, bn 0, bn 0],
  .ent 39 (cn 4147) (bn 0),
  .ent 9 (cn 4148) (jn 0),
  .ent 36 (cn 4149) (bn 0),
  .ent 9 (cn 4148) (jn 8),
  .ent 36 (cn 4151) (bn 0),
  .ent 9 (cn 4148) (jn 16),
  .ent 36 (cn 4153) (bn 0),
  .ent 9 (cn 4148) (jn 24),
  .ent 36 (cn 4155) (bn 0)]
noncomputable def tabS : List NInfo := [z0,
  z0,
  z0,
  ⟨none, none, [⟨36, cn 4099, bn 0, cn 4110⟩]⟩,
  ⟨none, none, [⟨34, cn 4100, bn 0, cn 4114⟩, ⟨1, cn 4100, bn 48, cn 4122⟩]⟩,
  ⟨none, none, [⟨34, cn 4101, bn 0, cn 4115⟩, ⟨1, cn 4101, bn 48, cn 4124⟩]⟩,
  ⟨none, some [cn 4100, cn 4101], []⟩,
  ⟨none, some [bn 49, bn 48, bn 46, bn 48, bn 46, bn 48, bn 46, cn 4100, cn 4101], []⟩,
  ⟨none, some [bn 49, bn 48, bn 46, bn 48, bn 46, bn 48, bn 46, cn 4100, cn 4101, bn 32, bn 104, bn 10, bn 49, bn 48, bn 46, bn 48, bn 46, bn 48, bn 46], []⟩,
  ⟨none, none, [⟨34, cn 4105, bn 0, cn 4116⟩, ⟨1, cn 4105, bn 48, cn 4132⟩]⟩,
  ⟨none, none, [⟨34, cn 4106, bn 0, cn 4117⟩, ⟨1, cn 4106, bn 48, cn 4135⟩]⟩,
  ⟨none, some [bn 49, cn 4105, cn 4106], []⟩,
  ⟨none, some [bn 49, bn 48, bn 46, bn 48, bn 46, bn 48, bn 46, cn 4100, cn 4101, bn 32, bn 104, bn 10, bn 49, bn 48, bn 46, bn 48, bn 46, bn 48, bn 46, bn 49, cn 4105, cn 4106], []⟩,
  ⟨none, some [bn 49, bn 48, bn 46, bn 48, bn 46, bn 48, bn 46, cn 4100, cn 4101, bn 32, bn 104, bn 10, bn 49, bn 48, bn 46, bn 48, bn 46, bn 48, bn 46, bn 49, cn 4105, cn 4106, bn 32, bn 104, bn 10], []⟩,
  z0,
  ⟨none, some [cn 4110], []⟩,
  ⟨none, some [bn 10, bn 0, bn 0, cn 4110], []⟩,
  ⟨none, some [bn 49, bn 48, bn 46, bn 48, bn 46, bn 48, bn 46, cn 4100, cn 4101, bn 32, bn 104], []⟩,
  z0,
  z0,
  z0,
  z0,
  ⟨none, some [bn 49, bn 48, bn 46, bn 48, bn 46, bn 48, bn 46, bn 49, cn 4105, cn 4106, bn 32, bn 104], []⟩,
  ⟨none, some [bn 49, bn 48, bn 46, bn 48, bn 46, bn 48, bn 46, bn 49, cn 4105, cn 4106], []⟩,
  ⟨none, some [bn 48, bn 46, bn 48, bn 46, cn 4100, cn 4101], []⟩,
  ⟨none, some [bn 48, bn 46, cn 4100, cn 4101], []⟩,
  ⟨none, none, [⟨39, cn 4122, bn 0, cn 4123⟩]⟩,
  ⟨none, none, [⟨2, cn 4123, .int .u64 (.ofNat 10), cn 4125⟩]⟩,
  ⟨none, none, [⟨39, cn 4124, bn 0, cn 4126⟩]⟩,
  ⟨none, none, [⟨0, cn 4125, cn 4126, cn 4127⟩]⟩,
  z0,
  ⟨none, none, [⟨36, cn 4127, bn 0, cn 4128⟩]⟩,
  z0,
  ⟨none, some [bn 10, bn 0, bn 0, cn 4128], []⟩,
  ⟨none, some [bn 48, bn 46, bn 48, bn 46, bn 49, cn 4105, cn 4106], []⟩,
  ⟨none, some [bn 48, bn 46, bn 49, cn 4105, cn 4106], []⟩,
  ⟨none, none, [⟨39, cn 4132, bn 0, cn 4133⟩]⟩,
  ⟨none, none, [⟨0, .int .u64 (.ofNat 10), cn 4133, cn 4134⟩]⟩,
  ⟨none, none, [⟨2, cn 4134, .int .u64 (.ofNat 10), cn 4136⟩]⟩,
  ⟨none, none, [⟨39, cn 4135, bn 0, cn 4137⟩]⟩,
  ⟨none, none, [⟨0, cn 4136, cn 4137, cn 4138⟩]⟩,
  z0,
  ⟨none, none, [⟨38, cn 4138, bn 0, cn 4141⟩]⟩,
  ⟨none, none, [⟨2, cn 4139, jn 78913, cn 4140⟩]⟩,
  z0,
  ⟨none, none, [⟨4, cn 4141, .int .u32 (.ofNat 100), cn 4142⟩]⟩,
  ⟨none, none, [⟨2, cn 4142, .int .u32 (.ofNat 2), cn 4143⟩]⟩,
  ⟨none, none, [⟨0, cn 4143, .int .u32 (.ofNat 1), cn 4144⟩]⟩,
  z0,
  ⟨none, some [bn 0, bn 0, bn 0, bn 0, bn 0, bn 0, bn 0, bn 0, bn 0, bn 0, bn 255, bn 255, bn 10, bn 0, bn 0, cn 4128], []⟩,
  ⟨none, some [bn 0, bn 0, bn 0, bn 0, bn 0, bn 0, bn 0, bn 0, bn 0, bn 0, bn 255, bn 255, bn 10, bn 0, bn 0, cn 4110], []⟩,
  ⟨some (.u32, (.ofNat 0), (.ofNat 4294967295)), none, [⟨39, cn 4147, bn 0, cn 4148⟩]⟩,
  ⟨some (.u64, (.ofNat 0), (.ofNat 18446744073709551615)), none, [⟨9, cn 4148, jn 0, cn 4149⟩, ⟨9, cn 4148, jn 8, cn 4151⟩, ⟨9, cn 4148, jn 16, cn 4153⟩, ⟨9, cn 4148, jn 24, cn 4155⟩]⟩,
  ⟨some (.u64, (.ofNat 0), (.ofNat 18446744073709551615)), none, [⟨36, cn 4149, bn 0, cn 4150⟩]⟩,
  ⟨some (.u8, (.ofNat 0), (.ofNat 255)), none, []⟩,
  ⟨some (.u64, (.ofNat 0), (.ofNat 18446744073709551615)), none, [⟨36, cn 4151, bn 0, cn 4152⟩]⟩,
  ⟨some (.u8, (.ofNat 0), (.ofNat 255)), none, []⟩,
  ⟨some (.u64, (.ofNat 0), (.ofNat 18446744073709551615)), none, [⟨36, cn 4153, bn 0, cn 4154⟩]⟩,
  ⟨some (.u8, (.ofNat 0), (.ofNat 255)), none, []⟩,
  ⟨some (.u64, (.ofNat 0), (.ofNat 18446744073709551615)), none, [⟨36, cn 4155, bn 0, cn 4156⟩]⟩,
  ⟨some (.u8, (.ofNat 0), (.ofNat 255)), none, []⟩]
noncomputable def tab0 : List NInfo := [z0,
  z0,
  ⟨some (.i64, (.ofNat 10), (.ofNat 99)), none, []⟩,
  z0,
  ⟨some (.u8, (.ofNat 49), (.ofNat 57)), none, []⟩,
  ⟨some (.u8, (.ofNat 48), (.ofNat 57)), none, []⟩,
  z0,
  z0,
  z0,
  z0,
  z0,
  z0,
  z0,
  z0,
  z0,
  z0,
  z0,
  z0,
  ⟨some (.i32, (.ofNat 49), (.ofNat 57)), none, []⟩,
  ⟨some (.i32, (.ofNat 48), (.ofNat 57)), none, []⟩,
  z0,
  z0,
  z0,
  z0,
  z0,
  z0,
  ⟨some (.u8, (.ofNat 1), (.ofNat 9)), none, []⟩,
  ⟨some (.u64, (.ofNat 1), (.ofNat 9)), none, [⟨0, .int .u64 (.ofNat 0), cn 4123, cn 4123⟩]⟩,
  ⟨some (.u8, (.ofNat 0), (.ofNat 9)), none, []⟩,
  ⟨some (.u64, (.ofNat 10), (.ofNat 90)), none, []⟩,
  ⟨some (.u64, (.ofNat 0), (.ofNat 9)), none, []⟩,
  ⟨some (.u64, (.ofNat 10), (.ofNat 99)), none, [⟨13, cn 4127, cn 4125, .bool false⟩, ⟨35, cn 4127, bn 0, cn 4098⟩]⟩,
  ⟨some (.u8, (.ofNat 10), (.ofNat 99)), none, []⟩,
  z0,
  z0,
  z0,
  z0,
  z0,
  z0,
  z0,
  z0,
  z0,
  z0,
  z0,
  z0,
  z0,
  z0,
  z0,
  z0,
  z0,
  z0,
  z0,
  z0,
  z0,
  z0,
  z0,
  z0,
  z0,
  z0,
  z0,
  z0]
noncomputable def tab1 : List NInfo := [z0,
  z0,
  z0,
  ⟨some (.i64, (.ofNat 100), (.ofNat 199)), none, []⟩,
  z0,
  z0,
  z0,
  z0,
  z0,
  ⟨some (.u8, (.ofNat 48), (.ofNat 57)), none, []⟩,
  ⟨some (.u8, (.ofNat 48), (.ofNat 57)), none, []⟩,
  z0,
  z0,
  z0,
  ⟨some (.u8, (.ofNat 100), (.ofNat 199)), none, []⟩,
  z0,
  z0,
  z0,
  z0,
  z0,
  ⟨some (.i32, (.ofNat 48), (.ofNat 57)), none, []⟩,
  ⟨some (.i32, (.ofNat 48), (.ofNat 57)), none, []⟩,
  z0,
  z0,
  z0,
  z0,
  z0,
  z0,
  z0,
  z0,
  z0,
  z0,
  z0,
  z0,
  z0,
  z0,
  ⟨some (.u8, (.ofNat 0), (.ofNat 9)), none, []⟩,
  ⟨some (.u64, (.ofNat 0), (.ofNat 9)), none, []⟩,
  ⟨some (.u64, (.ofNat 10), (.ofNat 19)), none, []⟩,
  ⟨some (.u8, (.ofNat 0), (.ofNat 9)), none, []⟩,
  ⟨some (.u64, (.ofNat 100), (.ofNat 190)), none, []⟩,
  ⟨some (.u64, (.ofNat 0), (.ofNat 9)), none, []⟩,
  ⟨some (.u64, (.ofNat 100), (.ofNat 199)), none, [⟨13, cn 4138, cn 4136, .bool false⟩, ⟨36, cn 4138, bn 0, cn 4110⟩]⟩,
  ⟨some (.i64, (.ofNat 7), (.ofNat 8)), none, []⟩,
  ⟨some (.i64, (.ofNat 552391), (.ofNat 631304)), none, [⟨9, cn 4140, .int .u64 (.ofNat 18), jn 2⟩]⟩,
  ⟨some (.u32, (.ofNat 100), (.ofNat 199)), none, [⟨3, cn 4141, .int .u32 (.ofNat 100), .int .u32 (.ofNat 1)⟩]⟩,
  ⟨some (.u32, (.ofNat 0), (.ofNat 99)), none, []⟩,
  ⟨some (.u32, (.ofNat 0), (.ofNat 198)), none, [⟨70, cn 4143, .string ⟨⟨[48, 48, 48, 49, 48, 50, 48, 51, 48, 52, 48, 53, 48, 54, 48, 55, 48, 56, 48, 57, 49, 48, 49, 49, 49, 50, 49, 51, 49, 52, 49, 53, 49, 54, 49, 55, 49, 56, 49, 57, 50, 48, 50, 49, 50, 50, 50, 51, 50, 52, 50, 53, 50, 54, 50, 55, 50, 56, 50, 57, 51, 48, 51, 49, 51, 50, 51, 51, 51, 52, 51, 53, 51, 54, 51, 55, 51, 56, 51, 57, 52, 48, 52, 49, 52, 50, 52, 51, 52, 52, 52, 53, 52, 54, 52, 55, 52, 56, 52, 57, 53, 48, 53, 49, 53, 50, 53, 51, 53, 52, 53, 53, 53, 54, 53, 55, 53, 56, 53, 57, 54, 48, 54, 49, 54, 50, 54, 51, 54, 52, 54, 53, 54, 54, 54, 55, 54, 56, 54, 57, 55, 48, 55, 49, 55, 50, 55, 51, 55, 52, 55, 53, 55, 54, 55, 55, 55, 56, 55, 57, 56, 48, 56, 49, 56, 50, 56, 51, 56, 52, 56, 53, 56, 54, 56, 55, 56, 56, 56, 57, 57, 48, 57, 49, 57, 50, 57, 51, 57, 52, 57, 53, 57, 54, 57, 55, 57, 56, 57, 57]⟩⟩, cn 4105⟩]⟩,
  ⟨some (.u32, (.ofNat 1), (.ofNat 199)), none, [⟨70, cn 4144, .string ⟨⟨[48, 48, 48, 49, 48, 50, 48, 51, 48, 52, 48, 53, 48, 54, 48, 55, 48, 56, 48, 57, 49, 48, 49, 49, 49, 50, 49, 51, 49, 52, 49, 53, 49, 54, 49, 55, 49, 56, 49, 57, 50, 48, 50, 49, 50, 50, 50, 51, 50, 52, 50, 53, 50, 54, 50, 55, 50, 56, 50, 57, 51, 48, 51, 49, 51, 50, 51, 51, 51, 52, 51, 53, 51, 54, 51, 55, 51, 56, 51, 57, 52, 48, 52, 49, 52, 50, 52, 51, 52, 52, 52, 53, 52, 54, 52, 55, 52, 56, 52, 57, 53, 48, 53, 49, 53, 50, 53, 51, 53, 52, 53, 53, 53, 54, 53, 55, 53, 56, 53, 57, 54, 48, 54, 49, 54, 50, 54, 51, 54, 52, 54, 53, 54, 54, 54, 55, 54, 56, 54, 57, 55, 48, 55, 49, 55, 50, 55, 51, 55, 52, 55, 53, 55, 54, 55, 55, 55, 56, 55, 57, 56, 48, 56, 49, 56, 50, 56, 51, 56, 52, 56, 53, 56, 54, 56, 55, 56, 56, 56, 57, 57, 48, 57, 49, 57, 50, 57, 51, 57, 52, 57, 53, 57, 54, 57, 55, 57, 56, 57, 57]⟩⟩, cn 4106⟩]⟩,
  z0,
  z0,
  z0,
  z0,
  z0,
  z0,
  z0,
  z0,
  z0,
  z0,
  z0,
  z0]
noncomputable def tab01 : List NInfo := [z0,
  z0,
  ⟨none, none, [⟨11, cn 4098, cn 4099, .bool false⟩]⟩,
  z0,
  z0,
  z0,
  z0,
  z0,
  z0,
  z0,
  z0,
  z0,
  z0,
  z0,
  ⟨none, none, [⟨11, cn 4110, cn 4128, .bool false⟩]⟩,
  z0,
  z0,
  z0,
  z0,
  z0,
  z0,
  z0,
  z0,
  z0,
  z0,
  z0,
  z0,
  z0,
  z0,
  z0,
  z0,
  z0,
  z0,
  z0,
  z0,
  z0,
  z0,
  z0,
  z0,
  z0,
  z0,
  z0,
  z0,
  z0,
  z0,
  z0,
  z0,
  z0,
  z0,
  z0,
  z0,
  z0,
  z0,
  z0,
  z0,
  z0,
  z0,
  z0,
  z0,
  z0,
  z0]
noncomputable def tab : List NInfo := (unionT tabS (unionT tab0 (unionT tab1 tab01)))
noncomputable def crcs : List (List Value × Value) := [([bn 1, bn 3, bn 0, bn 49, bn 47, bn 104, bn 0, bn 0, bn 0, bn 0, bn 0, bn 0, bn 0, bn 0, bn 0, bn 0, bn 0, bn 0, bn 0, bn 0, bn 0, bn 0, bn 44, bn 0, bn 0, bn 0, bn 0, bn 0, bn 0, bn 0, bn 44, bn 0, bn 0, bn 0, bn 0, bn 0, bn 0, bn 0, bn 0, bn 3, bn 4, bn 0, bn 10, bn 0, bn 0, cn 4128, bn 4, bn 0, bn 10, bn 0, bn 0, cn 4110, bn 4, bn 0, bn 10, bn 0, bn 0, bn 250, bn 1, bn 10, bn 0, bn 47, bn 101, bn 116, bn 99, bn 47, bn 104, bn 111, bn 115, bn 116, bn 115, bn 1, bn 0, bn 0, bn 0, bn 0, bn 0, bn 0, bn 0], cn 4147)]
noncomputable abbrev base (a0 : Int) (a1 : Int) (x0 : Nat) (x1 : Nat) : List Value := [.int .i64 a0, .int .i64 a1, .int .i64 (.ofNat x0), .int .i64 (.ofNat x1)]
noncomputable abbrev G (a0 : Int) (a1 : Int) (x0 : Nat) (x1 : Nat) : Sym := symL (mkVals ds (base a0 a1 x0 x1))
set_option maxRecDepth 100000 in
theorem refs_ok : refsAll ds 4 = true := by kernel_rfl
set_option maxRecDepth 100000 in
theorem nam_ok : namDs ds = true := by kernel_rfl
set_option maxRecDepth 100000 in
theorem len_ok : Nat.ble tab.length 4096 = true := by kernel_rfl
set_option maxRecDepth 100000 in
theorem crcs_ok : crcsB ds 4 crcs = true := by kernel_rfl
set_option maxRecDepth 100000 in
theorem sym_ok : symTab (ksOf ds [some .i64, some .i64, some .i64, some .i64]) ds 4 tabS 0 = true := by kernel_rfl
theorem gb0 (a0 : Int) (a1 : Int) (x0 : Nat) (x1 : Nat) : G a0 a1 x0 x1 (4096 - 4096) = .int .i64 a0 := by
  show symL (mkVals ds (base a0 a1 x0 x1)) 0 = _
  rw [symL_low ds (base a0 a1 x0 x1) 0 (by simp)]
  rfl
theorem gb1 (a0 : Int) (a1 : Int) (x0 : Nat) (x1 : Nat) : G a0 a1 x0 x1 (4097 - 4096) = .int .i64 a1 := by
  show symL (mkVals ds (base a0 a1 x0 x1)) 1 = _
  rw [symL_low ds (base a0 a1 x0 x1) 1 (by simp)]
  rfl
theorem gb2 (a0 : Int) (a1 : Int) (x0 : Nat) (x1 : Nat) : G a0 a1 x0 x1 (4098 - 4096) = .int .i64 (.ofNat x0) := by
  show symL (mkVals ds (base a0 a1 x0 x1)) 2 = _
  rw [symL_low ds (base a0 a1 x0 x1) 2 (by simp)]
  rfl
theorem gb3 (a0 : Int) (a1 : Int) (x0 : Nat) (x1 : Nat) : G a0 a1 x0 x1 (4099 - 4096) = .int .i64 (.ofNat x1) := by
  show symL (mkVals ds (base a0 a1 x0 x1)) 3 = _
  rw [symL_low ds (base a0 a1 x0 x1) 3 (by simp)]
  rfl
set_option maxRecDepth 100000 in
theorem tab0_all (a0 : Int) (a1 : Int) (x1 : Nat) : allB 90 (fun i0 => tabB (G a0 a1 (10 + i0) x1) tab0 0) = true := by kernel_rfl
theorem tab0_ok (a0 : Int) (a1 : Int) (x0 : Nat) (x1 : Nat) (h0 : 10 ≤ x0 ∧ x0 < 100) (h1 : 100 ≤ x1 ∧ x1 < 200) : TabOk (G a0 a1 x0 x1) tab0 := by
  have h := (allB_spec (tab0_all a0 a1 x1) (x0 - 10) (by omega))
  rw [show 10 + (x0 - 10) = x0 by omega] at h
  exact tabB_part h
set_option maxRecDepth 100000 in
theorem tab1_all (a0 : Int) (a1 : Int) (x0 : Nat) : allB 100 (fun i1 => tabB (G a0 a1 x0 (100 + i1)) tab1 0) = true := by kernel_rfl
theorem tab1_ok (a0 : Int) (a1 : Int) (x0 : Nat) (x1 : Nat) (h0 : 10 ≤ x0 ∧ x0 < 100) (h1 : 100 ≤ x1 ∧ x1 < 200) : TabOk (G a0 a1 x0 x1) tab1 := by
  have h := (allB_spec (tab1_all a0 a1 x0) (x1 - 100) (by omega))
  rw [show 100 + (x1 - 100) = x1 by omega] at h
  exact tabB_part h
set_option maxRecDepth 100000 in
theorem val14_all (a0 : Int) (a1 : Int) (x0 : Nat) : allB 100 (fun i => vEq (G a0 a1 x0 (100 + i) 14) (.int .u8 (.ofNat (100 + i)))) = true := by kernel_rfl
theorem val14 (a0 : Int) (a1 : Int) (x0 : Nat) (x1 : Nat) (h : 100 ≤ x1 ∧ x1 < 200) : G a0 a1 x0 x1 (4110 - 4096) = .int .u8 (.ofNat x1) := by
  have h := allB_spec (val14_all a0 a1 x0) (x1 - 100) (by omega)
  rw [show 100 + (x1 - 100) = x1 by omega] at h
  exact vEq_eq _ _ h
set_option maxRecDepth 100000 in
theorem val32_all (a0 : Int) (a1 : Int) (x1 : Nat) : allB 90 (fun i => vEq (G a0 a1 (10 + i) x1 32) (.int .u8 (.ofNat (10 + i)))) = true := by kernel_rfl
theorem val32 (a0 : Int) (a1 : Int) (x0 : Nat) (x1 : Nat) (h : 10 ≤ x0 ∧ x0 < 100) : G a0 a1 x0 x1 (4128 - 4096) = .int .u8 (.ofNat x0) := by
  have h := allB_spec (val32_all a0 a1 x1) (x0 - 10) (by omega)
  rw [show 10 + (x0 - 10) = x0 by omega] at h
  exact vEq_eq _ _ h
theorem tab01_2 (a0 : Int) (a1 : Int) (x0 : Nat) (x1 : Nat) (h0 : 10 ≤ x0 ∧ x0 < 100) (h1 : 100 ≤ x1 ∧ x1 < 200) : InfoOk (G a0 a1 x0 x1) 2 ⟨none, none, [⟨11, cn 4098, cn 4099, .bool false⟩]⟩ := (infoOk_cons rfl rfl rfl (by rw [gv_chan 4098, gb2 a0 a1 x0 x1, gv_chan 4099, gb3 a0 a1 x0 x1]; exact e_eql .i64 (.ofNat x0) (.ofNat x1) false (decide_eq_false (by simp only [Int.ofNat_eq_natCast, ne_eq]; omega))) infoOk_nil)
theorem tab01_14 (a0 : Int) (a1 : Int) (x0 : Nat) (x1 : Nat) (h0 : 10 ≤ x0 ∧ x0 < 100) (h1 : 100 ≤ x1 ∧ x1 < 200) : InfoOk (G a0 a1 x0 x1) 14 ⟨none, none, [⟨11, cn 4110, cn 4128, .bool false⟩]⟩ := (infoOk_cons rfl rfl rfl (by rw [gv_chan 4110, val14 a0 a1 x0 x1 h1, gv_chan 4128, val32 a0 a1 x0 x1 h0]; exact e_eql .u8 (.ofNat x1) (.ofNat x0) false (decide_eq_false (by simp only [Int.ofNat_eq_natCast, ne_eq]; omega))) infoOk_nil)
theorem tab01_ok (a0 : Int) (a1 : Int) (x0 : Nat) (x1 : Nat) (h0 : 10 ≤ x0 ∧ x0 < 100) (h1 : 100 ≤ x1 ∧ x1 < 200) : TabOk (G a0 a1 x0 x1) tab01 := by
  intro j f hf
  match j, hf with
  | 0, hf => obtain rfl := Option.some.inj (show some (z0 : NInfo) = some f from hf); exact infoOk_nil
  | 1, hf => obtain rfl := Option.some.inj (show some (z0 : NInfo) = some f from hf); exact infoOk_nil
  | 2, hf => obtain rfl := Option.some.inj (show some (⟨none, none, [⟨11, cn 4098, cn 4099, .bool false⟩]⟩ : NInfo) = some f from hf); exact tab01_2 a0 a1 x0 x1 h0 h1 
  | 3, hf => obtain rfl := Option.some.inj (show some (z0 : NInfo) = some f from hf); exact infoOk_nil
  | 4, hf => obtain rfl := Option.some.inj (show some (z0 : NInfo) = some f from hf); exact infoOk_nil
  | 5, hf => obtain rfl := Option.some.inj (show some (z0 : NInfo) = some f from hf); exact infoOk_nil
  | 6, hf => obtain rfl := Option.some.inj (show some (z0 : NInfo) = some f from hf); exact infoOk_nil
  | 7, hf => obtain rfl := Option.some.inj (show some (z0 : NInfo) = some f from hf); exact infoOk_nil
  | 8, hf => obtain rfl := Option.some.inj (show some (z0 : NInfo) = some f from hf); exact infoOk_nil
  | 9, hf => obtain rfl := Option.some.inj (show some (z0 : NInfo) = some f from hf); exact infoOk_nil
  | 10, hf => obtain rfl := Option.some.inj (show some (z0 : NInfo) = some f from hf); exact infoOk_nil
  | 11, hf => obtain rfl := Option.some.inj (show some (z0 : NInfo) = some f from hf); exact infoOk_nil
  | 12, hf => obtain rfl := Option.some.inj (show some (z0 : NInfo) = some f from hf); exact infoOk_nil
  | 13, hf => obtain rfl := Option.some.inj (show some (z0 : NInfo) = some f from hf); exact infoOk_nil
  | 14, hf => obtain rfl := Option.some.inj (show some (⟨none, none, [⟨11, cn 4110, cn 4128, .bool false⟩]⟩ : NInfo) = some f from hf); exact tab01_14 a0 a1 x0 x1 h0 h1 
  | 15, hf => obtain rfl := Option.some.inj (show some (z0 : NInfo) = some f from hf); exact infoOk_nil
  | 16, hf => obtain rfl := Option.some.inj (show some (z0 : NInfo) = some f from hf); exact infoOk_nil
  | 17, hf => obtain rfl := Option.some.inj (show some (z0 : NInfo) = some f from hf); exact infoOk_nil
  | 18, hf => obtain rfl := Option.some.inj (show some (z0 : NInfo) = some f from hf); exact infoOk_nil
  | 19, hf => obtain rfl := Option.some.inj (show some (z0 : NInfo) = some f from hf); exact infoOk_nil
  | 20, hf => obtain rfl := Option.some.inj (show some (z0 : NInfo) = some f from hf); exact infoOk_nil
  | 21, hf => obtain rfl := Option.some.inj (show some (z0 : NInfo) = some f from hf); exact infoOk_nil
  | 22, hf => obtain rfl := Option.some.inj (show some (z0 : NInfo) = some f from hf); exact infoOk_nil
  | 23, hf => obtain rfl := Option.some.inj (show some (z0 : NInfo) = some f from hf); exact infoOk_nil
  | 24, hf => obtain rfl := Option.some.inj (show some (z0 : NInfo) = some f from hf); exact infoOk_nil
  | 25, hf => obtain rfl := Option.some.inj (show some (z0 : NInfo) = some f from hf); exact infoOk_nil
  | 26, hf => obtain rfl := Option.some.inj (show some (z0 : NInfo) = some f from hf); exact infoOk_nil
  | 27, hf => obtain rfl := Option.some.inj (show some (z0 : NInfo) = some f from hf); exact infoOk_nil
  | 28, hf => obtain rfl := Option.some.inj (show some (z0 : NInfo) = some f from hf); exact infoOk_nil
  | 29, hf => obtain rfl := Option.some.inj (show some (z0 : NInfo) = some f from hf); exact infoOk_nil
  | 30, hf => obtain rfl := Option.some.inj (show some (z0 : NInfo) = some f from hf); exact infoOk_nil
  | 31, hf => obtain rfl := Option.some.inj (show some (z0 : NInfo) = some f from hf); exact infoOk_nil
  | 32, hf => obtain rfl := Option.some.inj (show some (z0 : NInfo) = some f from hf); exact infoOk_nil
  | 33, hf => obtain rfl := Option.some.inj (show some (z0 : NInfo) = some f from hf); exact infoOk_nil
  | 34, hf => obtain rfl := Option.some.inj (show some (z0 : NInfo) = some f from hf); exact infoOk_nil
  | 35, hf => obtain rfl := Option.some.inj (show some (z0 : NInfo) = some f from hf); exact infoOk_nil
  | 36, hf => obtain rfl := Option.some.inj (show some (z0 : NInfo) = some f from hf); exact infoOk_nil
  | 37, hf => obtain rfl := Option.some.inj (show some (z0 : NInfo) = some f from hf); exact infoOk_nil
  | 38, hf => obtain rfl := Option.some.inj (show some (z0 : NInfo) = some f from hf); exact infoOk_nil
  | 39, hf => obtain rfl := Option.some.inj (show some (z0 : NInfo) = some f from hf); exact infoOk_nil
  | 40, hf => obtain rfl := Option.some.inj (show some (z0 : NInfo) = some f from hf); exact infoOk_nil
  | 41, hf => obtain rfl := Option.some.inj (show some (z0 : NInfo) = some f from hf); exact infoOk_nil
  | 42, hf => obtain rfl := Option.some.inj (show some (z0 : NInfo) = some f from hf); exact infoOk_nil
  | 43, hf => obtain rfl := Option.some.inj (show some (z0 : NInfo) = some f from hf); exact infoOk_nil
  | 44, hf => obtain rfl := Option.some.inj (show some (z0 : NInfo) = some f from hf); exact infoOk_nil
  | 45, hf => obtain rfl := Option.some.inj (show some (z0 : NInfo) = some f from hf); exact infoOk_nil
  | 46, hf => obtain rfl := Option.some.inj (show some (z0 : NInfo) = some f from hf); exact infoOk_nil
  | 47, hf => obtain rfl := Option.some.inj (show some (z0 : NInfo) = some f from hf); exact infoOk_nil
  | 48, hf => obtain rfl := Option.some.inj (show some (z0 : NInfo) = some f from hf); exact infoOk_nil
  | 49, hf => obtain rfl := Option.some.inj (show some (z0 : NInfo) = some f from hf); exact infoOk_nil
  | 50, hf => obtain rfl := Option.some.inj (show some (z0 : NInfo) = some f from hf); exact infoOk_nil
  | 51, hf => obtain rfl := Option.some.inj (show some (z0 : NInfo) = some f from hf); exact infoOk_nil
  | 52, hf => obtain rfl := Option.some.inj (show some (z0 : NInfo) = some f from hf); exact infoOk_nil
  | 53, hf => obtain rfl := Option.some.inj (show some (z0 : NInfo) = some f from hf); exact infoOk_nil
  | 54, hf => obtain rfl := Option.some.inj (show some (z0 : NInfo) = some f from hf); exact infoOk_nil
  | 55, hf => obtain rfl := Option.some.inj (show some (z0 : NInfo) = some f from hf); exact infoOk_nil
  | 56, hf => obtain rfl := Option.some.inj (show some (z0 : NInfo) = some f from hf); exact infoOk_nil
  | 57, hf => obtain rfl := Option.some.inj (show some (z0 : NInfo) = some f from hf); exact infoOk_nil
  | 58, hf => obtain rfl := Option.some.inj (show some (z0 : NInfo) = some f from hf); exact infoOk_nil
  | 59, hf => obtain rfl := Option.some.inj (show some (z0 : NInfo) = some f from hf); exact infoOk_nil
  | 60, hf => obtain rfl := Option.some.inj (show some (z0 : NInfo) = some f from hf); exact infoOk_nil
  | n + 61, hf => exact absurd hf (by simp [tab01])
theorem kinv (a0 : Int) (a1 : Int) (x0 : Nat) (x1 : Nat) (h0 : 10 ≤ x0 ∧ x0 < 100) (h1 : 100 ≤ x1 ∧ x1 < 200) (w0 : -9223372036854775808 ≤ a0 ∧ a0 ≤ 9223372036854775807) (w1 : -9223372036854775808 ≤ a1 ∧ a1 ≤ 9223372036854775807) : KInv (symL (base a0 a1 x0 x1)) [some .i64, some .i64, some .i64, some .i64] := by
  intro i k hi
  match i, hi with
  | 0, hi => cases hi; exact ⟨a0, rfl, by rw [inK_iff]; exact w0⟩
  | 1, hi => cases hi; exact ⟨a1, rfl, by rw [inK_iff]; exact w1⟩
  | 2, hi => cases hi; exact ⟨.ofNat x0, rfl, by rw [inK_iff]; show (-9223372036854775808 : Int) ≤ (x0 : Int) ∧ (x0 : Int) ≤ 9223372036854775807; omega⟩
  | 3, hi => cases hi; exact ⟨.ofNat x1, rfl, by rw [inK_iff]; show (-9223372036854775808 : Int) ≤ (x1 : Int) ∧ (x1 : Int) ≤ 9223372036854775807; omega⟩
  | n + 4, hi => cases hi
theorem named_ok (a0 : Int) (a1 : Int) (x0 : Nat) (x1 : Nat) (i : Nat) : named (G a0 a1 x0 x1 i) := symL_named' (mkVals_named (by intro v hv; simp only [base, List.mem_cons, List.not_mem_nil, or_false] at hv; rcases hv with rfl | rfl | rfl | rfl <;> trivial) nam_ok) i
theorem names_ok (a0 : Int) (a1 : Int) (x0 : Nat) (x1 : Nat) (h0 : 10 ≤ x0 ∧ x0 < 100) (h1 : 100 ≤ x1 ∧ x1 < 200) (w0 : -9223372036854775808 ≤ a0 ∧ a0 ≤ 9223372036854775807) (w1 : -9223372036854775808 ≤ a1 ∧ a1 ≤ 9223372036854775807) : NamesOk (G a0 a1 x0 x1) (Names.ofL tab) := namesOk_parts (named_ok a0 a1 x0 x1) len_ok (TabOk.union (symTab_part (l := base a0 a1 x0 x1) rfl (kinv a0 a1 x0 x1 h0 h1 w0 w1) refs_ok sym_ok) (TabOk.union (tab0_ok a0 a1 x0 x1 h0 h1 ) (TabOk.union (tab1_ok a0 a1 x0 x1 h0 h1 ) (tab01_ok a0 a1 x0 x1 h0 h1 ))))
theorem crc_ok (a0 : Int) (a1 : Int) (x0 : Nat) (x1 : Nat) : CrcOk (G a0 a1 x0 x1) crcs := crcsB_ok (l := base a0 a1 x0 x1) refs_ok crcs_ok
noncomputable def pargs0 : List Value := [cn 4098]
noncomputable def pres0 : Value := cn 4102
noncomputable def pargs1 : List Value := [cn 4099]
noncomputable def pres1 : Value := cn 4107
noncomputable def pargs2 : List Value := [cn 4098]
noncomputable def pres2 : Value := cn 4102
noncomputable def pargs3 : List Value := [cn 4138]
noncomputable def pres3 : Value := cn 4139
end Go.Proofs.YtpficieiefgbfaaGreatDoor.topmerge.d23
namespace Go.Proofs.YtpficieiefgbfaaGreatDoor.topmerge.d31
open Go Vai
set_option linter.unusedVariables false
set_option linter.unusedSimpArgs false
noncomputable def ds : List NDef := [.idx .u8 (cn 4098) 100 [q0, q0, q0, q0, q0, q0, q0, q0, q0, q0, q1, q1, q1, q1, q1, q1, q1, q1, q1, q1, q2, q2, q2, q2, q2, q2, q2, q2, q2, q2, q3, q3, q3, q3, q3, q3, q3, q3, q3, q3, q4, q4, q4, q4, q4, q4, q4, q4, q4, q4, q5, q5, q5, q5, q5, q5, q5, q5, q5, q5, q6, q6, q6, q6, q6, q6, q6, q6, q6, q6, q7, q7, q7, q7, q7, q7, q7, q7, q7, q7, q8, q8, q8, q8, q8, q8, q8, q8, q8, q8, q9, q9, q9, q9, q9, q9, q9, q9, q9, q9],
  .idx .u8 (cn 4098) 100 [q0, q1, q2, q3, q4, q5, q6, q7, q8, q9, q0, q1, q2, q3, q4, q5, q6, q7, q8, q9, q0, q1, q2, q3, q4, q5, q6, q7, q8, q9, q0, q1, q2, q3, q4, q5, q6, q7, q8, q9, q0, q1, q2, q3, q4, q5, q6, q7, q8, q9, q0, q1, q2, q3, q4, q5, q6, q7, q8, q9, q0, q1, q2, q3, q4, q5, q6, q7, q8, q9, q0, q1, q2, q3, q4, q5, q6, q7, q8, q9, q0, q1, q2, q3, q4, q5, q6, q7, q8, q9, q0, q1, q2, q3, q4, q5, q6, q7, q8, q9],
  .str [bn 49, cn 4100, cn 4101],
  .str [bn 49, bn 48, bn 46, bn 48, bn 46, bn 48, bn 46, bn 49, cn 4100, cn 4101],
  .str [bn 49, bn 48, bn 46, bn 48, bn 46, bn 48, bn 46, bn 49, cn 4100, cn 4101, bn 32, bn 104, bn 10, bn 49, bn 48, bn 46, bn 48, bn 46, bn 48, bn 46],
  .idx .u8 (cn 4099) 0 [q0, q1, q2, q3, q4, q5, q6, q7, q8, q9],
  .str [cn 4105],
  .str [bn 49, bn 48, bn 46, bn 48, bn 46, bn 48, bn 46, bn 49, cn 4100, cn 4101, bn 32, bn 104, bn 10, bn 49, bn 48, bn 46, bn 48, bn 46, bn 48, bn 46, cn 4105],
  .str [bn 49, bn 48, bn 46, bn 48, bn 46, bn 48, bn 46, bn 49, cn 4100, cn 4101, bn 32, bn 104, bn 10, bn 49, bn 48, bn 46, bn 48, bn 46, bn 48, bn 46, cn 4105, bn 32, bn 104, bn 10],
  .ent 36 (cn 4099) (bn 0),
  .str [cn 4109],
  .str [bn 10, bn 0, bn 0, cn 4109],
  .str [bn 49, bn 48, bn 46, bn 48, bn 46, bn 48, bn 46, bn 49, cn 4100, cn 4101, bn 32, bn 104],
  .ent 34 (cn 4100) (bn 0),
  .ent 34 (cn 4101) (bn 0),
  .ent 34 (cn 4105) (bn 0),
  .ent 34 (cn 4109) (bn 0),
  .str [bn 49, bn 48, bn 46, bn 48, bn 46, bn 48, bn 46, cn 4105, bn 32, bn 104],
  .str [bn 49, bn 48, bn 46, bn 48, bn 46, bn 48, bn 46, cn 4105],
  .str [bn 48, bn 46, bn 48, bn 46, bn 49, cn 4100, cn 4101],
  .str [bn 48, bn 46, bn 49, cn 4100, cn 4101],
  .ent 1 (cn 4100) (bn 48),
  .ent 39 (cn 4121) (bn 0),
  .ent 0 (.int .u64 (.ofNat 10)) (cn 4122),
  .ent 1 (cn 4101) (bn 48),
  .ent 2 (cn 4123) (.int .u64 (.ofNat 10)),
  .ent 39 (cn 4124) (bn 0),
  .ent 0 (cn 4125) (cn 4126),
  .idx .i64 (cn 4098) 100 [.ofNat 7, .ofNat 7, .ofNat 7, .ofNat 7, .ofNat 7, .ofNat 7, .ofNat 7, .ofNat 7, .ofNat 7, .ofNat 7, .ofNat 7, .ofNat 7, .ofNat 7, .ofNat 7, .ofNat 7, .ofNat 7, .ofNat 7, .ofNat 7, .ofNat 7, .ofNat 7, .ofNat 7, .ofNat 7, .ofNat 7, .ofNat 7, .ofNat 7, .ofNat 7, .ofNat 7, .ofNat 7, .ofNat 8, .ofNat 8, .ofNat 8, .ofNat 8, .ofNat 8, .ofNat 8, .ofNat 8, .ofNat 8, .ofNat 8, .ofNat 8, .ofNat 8, .ofNat 8, .ofNat 8, .ofNat 8, .ofNat 8, .ofNat 8, .ofNat 8, .ofNat 8, .ofNat 8, .ofNat 8, .ofNat 8, .ofNat 8, .ofNat 8, .ofNat 8, .ofNat 8, .ofNat 8, .ofNat 8, .ofNat 8, .ofNat 8, .ofNat 8, .ofNat 8, .ofNat 8, .ofNat 8, .ofNat 8, .ofNat 8, .ofNat 8, .ofNat 8, .ofNat 8, .ofNat 8, .ofNat 8, .ofNat 8, .ofNat 8, .ofNat 8, .ofNat 8, .ofNat 8, .ofNat 8, .ofNat 8, .ofNat 8, .ofNat 8, .ofNat 8, .ofNat 8, .ofNat 8, .ofNat 8, .ofNat 8, .ofNat 8, .ofNat 8, .ofNat 8, .ofNat 8, .ofNat 8, .ofNat 8, .ofNat 8, .ofNat 8, .ofNat 8, .ofNat 8, .ofNat 8, .ofNat 8, .ofNat 8, .ofNat 8, .ofNat 8, .ofNat 8, .ofNat 8, .ofNat 8],
  .ent 2 (cn 4128) (jn 78913),
  .ent 38 (cn 4127) (bn 0),
  .ent 4 (cn 4130) (.int .u32 (.ofNat 100)),
  .ent 2 (cn 4131) (.int .u32 (.ofNat 2)),
  .ent 0 (cn 4132) (.int .u32 (.ofNat 1)),
  .ent 36 (cn 4127) (bn 0),
  .str [bn 10, bn 0, bn 0, cn 4134],
  .str [bn 48, bn 46, bn 48, bn 46, cn 4105],
  .str [bn 48, bn 46, cn 4105],
  .ent 39 (cn 4109) (bn 0),
  .str [bn 0, bn 0, bn 0, bn 0, bn 0, bn 0, bn 0, bn 0, bn 0, bn 0, bn 255, bn 255, bn 10, bn 0, bn 0, cn 4134],
  .str [bn 0, bn 0, bn 0, bn 0, bn 0, bn 0, bn 0, bn 0, bn 0, bn 0, bn 255, bn 255, bn 10, bn 0, bn 0, cn 4109],
  .crc [bn 1, bn 3, bn 0, bn 49, bn 47, bn 104, bn 0, bn 0, bn 0, bn 0, bn 0, bn 0, bn 0, bn 0, bn 0, bn 0, bn 0, bn 0, bn 0, bn 0, bn 0, bn 0, bn 44, bn 0, bn 0, bn 0, bn 0, bn 0, bn 0, bn 0, bn 44, bn 0, bn 0, bn 0, bn 0, bn 0, bn 0, bn 0, bn 0, bn 3, bn 4, bn 0, bn 10, bn 0, bn 0, cn 4134, bn 4, bn 0, bn 10, bn 0, bn 0, cn 4109, bn 4, bn 0, bn 10, bn 0, bn 0, bn 250, bn 1, bn 10, bn 0, bn 47, bn 101, bn 116, bn 99, bn 47, bn 104, bn 111, bn 115, bn 116, bn 115, bn 1, bn 0, bn 0, bn 0, bn 0, bn 0, bn 0, bn 0],
  .ent 39 (cn 4141) (bn 0),
  .ent 9 (cn 4142) (jn 0),
  .ent 36 (cn 4143) (bn 0),
  .ent 9 (cn 4142) (jn 8),
  .ent 36 (cn 4145) (bn 0),
  .ent 9 (cn 4142) (jn 16),
  .ent 36 (cn 4147) (bn 0),
  .ent 9 (cn 4142) (jn 24),
  .ent 36 (cn 4149) (bn 0)]
noncomputable def tabS : List NInfo := [z0,
  z0,
  z0,
  ⟨none, none, [⟨36, cn 4099, bn 0, cn 4109⟩]⟩,
  ⟨none, none, [⟨34, cn 4100, bn 0, cn 4113⟩, ⟨1, cn 4100, bn 48, cn 4121⟩]⟩,
  ⟨none, none, [⟨34, cn 4101, bn 0, cn 4114⟩, ⟨1, cn 4101, bn 48, cn 4124⟩]⟩,
  ⟨none, some [bn 49, cn 4100, cn 4101], []⟩,
  ⟨none, some [bn 49, bn 48, bn 46, bn 48, bn 46, bn 48, bn 46, bn 49, cn 4100, cn 4101], []⟩,
  ⟨none, some [bn 49, bn 48, bn 46, bn 48, bn 46, bn 48, bn 46, bn 49, cn 4100, cn 4101, bn 32, bn 104, bn 10, bn 49, bn 48, bn 46, bn 48, bn 46, bn 48, bn 46], []⟩,
  ⟨none, none, [⟨34, cn 4105, bn 0, cn 4115⟩]⟩,
  ⟨none, some [cn 4105], []⟩,
  ⟨none, some [bn 49, bn 48, bn 46, bn 48, bn 46, bn 48, bn 46, bn 49, cn 4100, cn 4101, bn 32, bn 104, bn 10, bn 49, bn 48, bn 46, bn 48, bn 46, bn 48, bn 46, cn 4105], []⟩,
  ⟨none, some [bn 49, bn 48, bn 46, bn 48, bn 46, bn 48, bn 46, bn 49, cn 4100, cn 4101, bn 32, bn 104, bn 10, bn 49, bn 48, bn 46, bn 48, bn 46, bn 48, bn 46, cn 4105, bn 32, bn 104, bn 10], []⟩,
  ⟨none, none, [⟨34, cn 4109, bn 0, cn 4116⟩, ⟨39, cn 4109, bn 0, cn 4138⟩]⟩,
  ⟨none, some [cn 4109], []⟩,
  ⟨none, some [bn 10, bn 0, bn 0, cn 4109], []⟩,
  ⟨none, some [bn 49, bn 48, bn 46, bn 48, bn 46, bn 48, bn 46, bn 49, cn 4100, cn 4101, bn 32, bn 104], []⟩,
  z0,
  z0,
  z0,
  z0,
  ⟨none, some [bn 49, bn 48, bn 46, bn 48, bn 46, bn 48, bn 46, cn 4105, bn 32, bn 104], []⟩,
  ⟨none, some [bn 49, bn 48, bn 46, bn 48, bn 46, bn 48, bn 46, cn 4105], []⟩,
  ⟨none, some [bn 48, bn 46, bn 48, bn 46, bn 49, cn 4100, cn 4101], []⟩,
  ⟨none, some [bn 48, bn 46, bn 49, cn 4100, cn 4101], []⟩,
  ⟨none, none, [⟨39, cn 4121, bn 0, cn 4122⟩]⟩,
  ⟨none, none, [⟨0, .int .u64 (.ofNat 10), cn 4122, cn 4123⟩]⟩,
  ⟨none, none, [⟨2, cn 4123, .int .u64 (.ofNat 10), cn 4125⟩]⟩,
  ⟨none, none, [⟨39, cn 4124, bn 0, cn 4126⟩]⟩,
  ⟨none, none, [⟨0, cn 4125, cn 4126, cn 4127⟩]⟩,
  z0,
  ⟨none, none, [⟨38, cn 4127, bn 0, cn 4130⟩, ⟨36, cn 4127, bn 0, cn 4134⟩]⟩,
  ⟨none, none, [⟨2, cn 4128, jn 78913, cn 4129⟩]⟩,
  z0,
  ⟨none, none, [⟨4, cn 4130, .int .u32 (.ofNat 100), cn 4131⟩]⟩,
  ⟨none, none, [⟨2, cn 4131, .int .u32 (.ofNat 2), cn 4132⟩]⟩,
  ⟨none, none, [⟨0, cn 4132, .int .u32 (.ofNat 1), cn 4133⟩]⟩,
  z0,
  z0,
  ⟨none, some [bn 10, bn 0, bn 0, cn 4134], []⟩,
  ⟨none, some [bn 48, bn 46, bn 48, bn 46, cn 4105], []⟩,
  ⟨none, some [bn 48, bn 46, cn 4105], []⟩,
  z0,
  ⟨none, some [bn 0, bn 0, bn 0, bn 0, bn 0, bn 0, bn 0, bn 0, bn 0, bn 0, bn 255, bn 255, bn 10, bn 0, bn 0, cn 4134], []⟩,
  ⟨none, some [bn 0, bn 0, bn 0, bn 0, bn 0, bn 0, bn 0, bn 0, bn 0, bn 0, bn 255, bn 255, bn 10, bn 0, bn 0, cn 4109], []⟩,
  ⟨some (.u32, (.ofNat 0), (.ofNat 4294967295)), none, [⟨39, cn 4141, bn 0, cn 4142⟩]⟩,
  ⟨some (.u64, (.ofNat 0), (.ofNat 18446744073709551615)), none, [⟨9, cn 4142, jn 0, cn 4143⟩, ⟨9, cn 4142, jn 8, cn 4145⟩, ⟨9, cn 4142, jn 16, cn 4147⟩, ⟨9, cn 4142, jn 24, cn 4149⟩]⟩,
  ⟨some (.u64, (.ofNat 0), (.ofNat 18446744073709551615)), none, [⟨36, cn 4143, bn 0, cn 4144⟩]⟩,
  ⟨some (.u8, (.ofNat 0), (.ofNat 255)), none, []⟩,
  ⟨some (.u64, (.ofNat 0), (.ofNat 18446744073709551615)), none, [⟨36, cn 4145, bn 0, cn 4146⟩]⟩,
  ⟨some (.u8, (.ofNat 0), (.ofNat 255)), none, []⟩,
  ⟨some (.u64, (.ofNat 0), (.ofNat 18446744073709551615)), none, [⟨36, cn 4147, bn 0, cn 4148⟩]⟩,
  ⟨some (.u8, (.ofNat 0), (.ofNat 255)), none, []⟩,
  ⟨some (.u64, (.ofNat 0), (.ofNat 18446744073709551615)), none, [⟨36, cn 4149, bn 0, cn 4150⟩]⟩,
  ⟨some (.u8, (.ofNat 0), (.ofNat 255)), none, []⟩]
noncomputable def tab0 : List NInfo := [z0,
  z0,
  ⟨some (.i64, (.ofNat 100), (.ofNat 199)), none, []⟩,
  z0,
  ⟨some (.u8, (.ofNat 48), (.ofNat 57)), none, []⟩,
  ⟨some (.u8, (.ofNat 48), (.ofNat 57)), none, []⟩,
  z0,
  z0,
  z0,
  z0,
  z0,
  z0,
  z0,
  z0,
  z0,
  z0,
  z0,
  ⟨some (.i32, (.ofNat 48), (.ofNat 57)), none, []⟩,
  ⟨some (.i32, (.ofNat 48), (.ofNat 57)), none, []⟩,
  z0,
  z0,
  z0,
  z0,
  z0,
  z0,
  ⟨some (.u8, (.ofNat 0), (.ofNat 9)), none, []⟩,
  ⟨some (.u64, (.ofNat 0), (.ofNat 9)), none, []⟩,
  ⟨some (.u64, (.ofNat 10), (.ofNat 19)), none, []⟩,
  ⟨some (.u8, (.ofNat 0), (.ofNat 9)), none, []⟩,
  ⟨some (.u64, (.ofNat 100), (.ofNat 190)), none, []⟩,
  ⟨some (.u64, (.ofNat 0), (.ofNat 9)), none, []⟩,
  ⟨some (.u64, (.ofNat 100), (.ofNat 199)), none, [⟨13, cn 4127, cn 4125, .bool false⟩]⟩,
  ⟨some (.i64, (.ofNat 7), (.ofNat 8)), none, []⟩,
  ⟨some (.i64, (.ofNat 552391), (.ofNat 631304)), none, [⟨9, cn 4129, .int .u64 (.ofNat 18), jn 2⟩]⟩,
  ⟨some (.u32, (.ofNat 100), (.ofNat 199)), none, [⟨3, cn 4130, .int .u32 (.ofNat 100), .int .u32 (.ofNat 1)⟩]⟩,
  ⟨some (.u32, (.ofNat 0), (.ofNat 99)), none, []⟩,
  ⟨some (.u32, (.ofNat 0), (.ofNat 198)), none, [⟨70, cn 4132, .string ⟨⟨[48, 48, 48, 49, 48, 50, 48, 51, 48, 52, 48, 53, 48, 54, 48, 55, 48, 56, 48, 57, 49, 48, 49, 49, 49, 50, 49, 51, 49, 52, 49, 53, 49, 54, 49, 55, 49, 56, 49, 57, 50, 48, 50, 49, 50, 50, 50, 51, 50, 52, 50, 53, 50, 54, 50, 55, 50, 56, 50, 57, 51, 48, 51, 49, 51, 50, 51, 51, 51, 52, 51, 53, 51, 54, 51, 55, 51, 56, 51, 57, 52, 48, 52, 49, 52, 50, 52, 51, 52, 52, 52, 53, 52, 54, 52, 55, 52, 56, 52, 57, 53, 48, 53, 49, 53, 50, 53, 51, 53, 52, 53, 53, 53, 54, 53, 55, 53, 56, 53, 57, 54, 48, 54, 49, 54, 50, 54, 51, 54, 52, 54, 53, 54, 54, 54, 55, 54, 56, 54, 57, 55, 48, 55, 49, 55, 50, 55, 51, 55, 52, 55, 53, 55, 54, 55, 55, 55, 56, 55, 57, 56, 48, 56, 49, 56, 50, 56, 51, 56, 52, 56, 53, 56, 54, 56, 55, 56, 56, 56, 57, 57, 48, 57, 49, 57, 50, 57, 51, 57, 52, 57, 53, 57, 54, 57, 55, 57, 56, 57, 57]⟩⟩, cn 4100⟩]⟩,
  ⟨some (.u32, (.ofNat 1), (.ofNat 199)), none, [⟨70, cn 4133, .string ⟨⟨[48, 48, 48, 49, 48, 50, 48, 51, 48, 52, 48, 53, 48, 54, 48, 55, 48, 56, 48, 57, 49, 48, 49, 49, 49, 50, 49, 51, 49, 52, 49, 53, 49, 54, 49, 55, 49, 56, 49, 57, 50, 48, 50, 49, 50, 50, 50, 51, 50, 52, 50, 53, 50, 54, 50, 55, 50, 56, 50, 57, 51, 48, 51, 49, 51, 50, 51, 51, 51, 52, 51, 53, 51, 54, 51, 55, 51, 56, 51, 57, 52, 48, 52, 49, 52, 50, 52, 51, 52, 52, 52, 53, 52, 54, 52, 55, 52, 56, 52, 57, 53, 48, 53, 49, 53, 50, 53, 51, 53, 52, 53, 53, 53, 54, 53, 55, 53, 56, 53, 57, 54, 48, 54, 49, 54, 50, 54, 51, 54, 52, 54, 53, 54, 54, 54, 55, 54, 56, 54, 57, 55, 48, 55, 49, 55, 50, 55, 51, 55, 52, 55, 53, 55, 54, 55, 55, 55, 56, 55, 57, 56, 48, 56, 49, 56, 50, 56, 51, 56, 52, 56, 53, 56, 54, 56, 55, 56, 56, 56, 57, 57, 48, 57, 49, 57, 50, 57, 51, 57, 52, 57, 53, 57, 54, 57, 55, 57, 56, 57, 57]⟩⟩, cn 4101⟩]⟩,
  ⟨some (.u8, (.ofNat 100), (.ofNat 199)), none, []⟩,
  z0,
  z0,
  z0,
  z0,
  z0,
  z0,
  z0,
  z0,
  z0,
  z0,
  z0,
  z0,
  z0,
  z0,
  z0,
  z0]
noncomputable def tab1 : List NInfo := [z0,
  z0,
  z0,
  ⟨some (.i64, (.ofNat 0), (.ofNat 9)), none, []⟩,
  z0,
  z0,
  z0,
  z0,
  z0,
  ⟨some (.u8, (.ofNat 48), (.ofNat 57)), none, [⟨1, cn 4105, bn 48, cn 4109⟩]⟩,
  z0,
  z0,
  z0,
  ⟨some (.u8, (.ofNat 0), (.ofNat 9)), none, []⟩,
  z0,
  z0,
  z0,
  z0,
  z0,
  ⟨some (.i32, (.ofNat 48), (.ofNat 57)), none, []⟩,
  ⟨some (.i32, (.ofNat 0), (.ofNat 9)), none, []⟩,
  z0,
  z0,
  z0,
  z0,
  z0,
  z0,
  z0,
  z0,
  z0,
  z0,
  z0,
  z0,
  z0,
  z0,
  z0,
  z0,
  z0,
  z0,
  z0,
  z0,
  z0,
  ⟨some (.u64, (.ofNat 0), (.ofNat 9)), none, [⟨0, .int .u64 (.ofNat 0), cn 4138, cn 4138⟩, ⟨35, cn 4138, bn 0, cn 4099⟩, ⟨36, cn 4138, bn 0, cn 4109⟩]⟩,
  z0,
  z0,
  z0,
  z0,
  z0,
  z0,
  z0,
  z0,
  z0,
  z0,
  z0,
  z0]
noncomputable def tab01 : List NInfo := [z0,
  z0,
  ⟨none, none, [⟨11, cn 4098, cn 4099, .bool false⟩]⟩,
  z0,
  z0,
  z0,
  z0,
  z0,
  z0,
  z0,
  z0,
  z0,
  z0,
  ⟨none, none, [⟨11, cn 4109, cn 4134, .bool false⟩]⟩,
  z0,
  z0,
  z0,
  z0,
  z0,
  z0,
  z0,
  z0,
  z0,
  z0,
  z0,
  z0,
  z0,
  z0,
  z0,
  z0,
  z0,
  z0,
  z0,
  z0,
  z0,
  z0,
  z0,
  z0,
  z0,
  z0,
  z0,
  z0,
  z0,
  z0,
  z0,
  z0,
  z0,
  z0,
  z0,
  z0,
  z0,
  z0,
  z0,
  z0,
  z0]
noncomputable def tab : List NInfo := (unionT tabS (unionT tab0 (unionT tab1 tab01)))
noncomputable def crcs : List (List Value × Value) := [([bn 1, bn 3, bn 0, bn 49, bn 47, bn 104, bn 0, bn 0, bn 0, bn 0, bn 0, bn 0, bn 0, bn 0, bn 0, bn 0, bn 0, bn 0, bn 0, bn 0, bn 0, bn 0, bn 44, bn 0, bn 0, bn 0, bn 0, bn 0, bn 0, bn 0, bn 44, bn 0, bn 0, bn 0, bn 0, bn 0, bn 0, bn 0, bn 0, bn 3, bn 4, bn 0, bn 10, bn 0, bn 0, cn 4134, bn 4, bn 0, bn 10, bn 0, bn 0, cn 4109, bn 4, bn 0, bn 10, bn 0, bn 0, bn 250, bn 1, bn 10, bn 0, bn 47, bn 101, bn 116, bn 99, bn 47, bn 104, bn 111, bn 115, bn 116, bn 115, bn 1, bn 0, bn 0, bn 0, bn 0, bn 0, bn 0, bn 0], cn 4141)]
noncomputable abbrev base (a0 : Int) (a1 : Int) (x0 : Nat) (x1 : Nat) : List Value := [.int .i64 a0, .int .i64 a1, .int .i64 (.ofNat x0), .int .i64 (.ofNat x1)]
noncomputable abbrev G (a0 : Int) (a1 : Int) (x0 : Nat) (x1 : Nat) : Sym := symL (mkVals ds (base a0 a1 x0 x1))
set_option maxRecDepth 100000 in
theorem refs_ok : refsAll ds 4 = true := by kernel_rfl
set_option maxRecDepth 100000 in
theorem nam_ok : namDs ds = true := by kernel_rfl
set_option maxRecDepth 100000 in
theorem len_ok : Nat.ble tab.length 4096 = true := by kernel_rfl
set_option maxRecDepth 100000 in
theorem crcs_ok : crcsB ds 4 crcs = true := by kernel_rfl
set_option maxRecDepth 100000 in
theorem sym_ok : symTab (ksOf ds [some .i64, some .i64, some .i64, some .i64]) ds 4 tabS 0 = true := by kernel_rfl
theorem gb0 (a0 : Int) (a1 : Int) (x0 : Nat) (x1 : Nat) : G a0 a1 x0 x1 (4096 - 4096) = .int .i64 a0 := by
  show symL (mkVals ds (base a0 a1 x0 x1)) 0 = _
  rw [symL_low ds (base a0 a1 x0 x1) 0 (by simp)]
  rfl
theorem gb1 (a0 : Int) (a1 : Int) (x0 : Nat) (x1 : Nat) : G a0 a1 x0 x1 (4097 - 4096) = .int .i64 a1 := by
  show symL (mkVals ds (base a0 a1 x0 x1)) 1 = _
  rw [symL_low ds (base a0 a1 x0 x1) 1 (by simp)]
  rfl
theorem gb2 (a0 : Int) (a1 : Int) (x0 : Nat) (x1 : Nat) : G a0 a1 x0 x1 (4098 - 4096) = .int .i64 (.ofNat x0) := by
  show symL (mkVals ds (base a0 a1 x0 x1)) 2 = _
  rw [symL_low ds (base a0 a1 x0 x1) 2 (by simp)]
  rfl
theorem gb3 (a0 : Int) (a1 : Int) (x0 : Nat) (x1 : Nat) : G a0 a1 x0 x1 (4099 - 4096) = .int .i64 (.ofNat x1) := by
  show symL (mkVals ds (base a0 a1 x0 x1)) 3 = _
  rw [symL_low ds (base a0 a1 x0 x1) 3 (by simp)]
  rfl
set_option maxRecDepth 100000 in
theorem tab0_all (a0 : Int) (a1 : Int) (x1 : Nat) : allB 100 (fun i0 => tabB (G a0 a1 (100 + i0) x1) tab0 0) = true := by kernel_rfl
theorem tab0_ok (a0 : Int) (a1 : Int) (x0 : Nat) (x1 : Nat) (h0 : 100 ≤ x0 ∧ x0 < 200) (h1 : 0 ≤ x1 ∧ x1 < 10) : TabOk (G a0 a1 x0 x1) tab0 := by
  have h := (allB_spec (tab0_all a0 a1 x1) (x0 - 100) (by omega))
  rw [show 100 + (x0 - 100) = x0 by omega] at h
  exact tabB_part h
set_option maxRecDepth 100000 in
theorem tab1_all (a0 : Int) (a1 : Int) (x0 : Nat) : allB 10 (fun i1 => tabB (G a0 a1 x0 (0 + i1)) tab1 0) = true := by kernel_rfl
theorem tab1_ok (a0 : Int) (a1 : Int) (x0 : Nat) (x1 : Nat) (h0 : 100 ≤ x0 ∧ x0 < 200) (h1 : 0 ≤ x1 ∧ x1 < 10) : TabOk (G a0 a1 x0 x1) tab1 := by
  have h := (allB_spec (tab1_all a0 a1 x0) (x1 - 0) (by omega))
  rw [show 0 + (x1 - 0) = x1 by omega] at h
  exact tabB_part h
set_option maxRecDepth 100000 in
theorem val13_all (a0 : Int) (a1 : Int) (x0 : Nat) : allB 10 (fun i => vEq (G a0 a1 x0 (0 + i) 13) (.int .u8 (.ofNat (0 + i)))) = true := by kernel_rfl
theorem val13 (a0 : Int) (a1 : Int) (x0 : Nat) (x1 : Nat) (h : 0 ≤ x1 ∧ x1 < 10) : G a0 a1 x0 x1 (4109 - 4096) = .int .u8 (.ofNat x1) := by
  have h := allB_spec (val13_all a0 a1 x0) (x1 - 0) (by omega)
  rw [show 0 + (x1 - 0) = x1 by omega] at h
  exact vEq_eq _ _ h
set_option maxRecDepth 100000 in
theorem val38_all (a0 : Int) (a1 : Int) (x1 : Nat) : allB 100 (fun i => vEq (G a0 a1 (100 + i) x1 38) (.int .u8 (.ofNat (100 + i)))) = true := by kernel_rfl
theorem val38 (a0 : Int) (a1 : Int) (x0 : Nat) (x1 : Nat) (h : 100 ≤ x0 ∧ x0 < 200) : G a0 a1 x0 x1 (4134 - 4096) = .int .u8 (.ofNat x0) := by
  have h := allB_spec (val38_all a0 a1 x1) (x0 - 100) (by omega)
  rw [show 100 + (x0 - 100) = x0 by omega] at h
  exact vEq_eq _ _ h
theorem tab01_2 (a0 : Int) (a1 : Int) (x0 : Nat) (x1 : Nat) (h0 : 100 ≤ x0 ∧ x0 < 200) (h1 : 0 ≤ x1 ∧ x1 < 10) : InfoOk (G a0 a1 x0 x1) 2 ⟨none, none, [⟨11, cn 4098, cn 4099, .bool false⟩]⟩ := (infoOk_cons rfl rfl rfl (by rw [gv_chan 4098, gb2 a0 a1 x0 x1, gv_chan 4099, gb3 a0 a1 x0 x1]; exact e_eql .i64 (.ofNat x0) (.ofNat x1) false (decide_eq_false (by simp only [Int.ofNat_eq_natCast, ne_eq]; omega))) infoOk_nil)
theorem tab01_13 (a0 : Int) (a1 : Int) (x0 : Nat) (x1 : Nat) (h0 : 100 ≤ x0 ∧ x0 < 200) (h1 : 0 ≤ x1 ∧ x1 < 10) : InfoOk (G a0 a1 x0 x1) 13 ⟨none, none, [⟨11, cn 4109, cn 4134, .bool false⟩]⟩ := (infoOk_cons rfl rfl rfl (by rw [gv_chan 4109, val13 a0 a1 x0 x1 h1, gv_chan 4134, val38 a0 a1 x0 x1 h0]; exact e_eql .u8 (.ofNat x1) (.ofNat x0) false (decide_eq_false (by simp only [Int.ofNat_eq_natCast, ne_eq]; omega))) infoOk_nil)
theorem tab01_ok (a0 : Int) (a1 : Int) (x0 : Nat) (x1 : Nat) (h0 : 100 ≤ x0 ∧ x0 < 200) (h1 : 0 ≤ x1 ∧ x1 < 10) : TabOk (G a0 a1 x0 x1) tab01 := by
  intro j f hf
  match j, hf with
  | 0, hf => obtain rfl := Option.some.inj (show some (z0 : NInfo) = some f from hf); exact infoOk_nil
  | 1, hf => obtain rfl := Option.some.inj (show some (z0 : NInfo) = some f from hf); exact infoOk_nil
  | 2, hf => obtain rfl := Option.some.inj (show some (⟨none, none, [⟨11, cn 4098, cn 4099, .bool false⟩]⟩ : NInfo) = some f from hf); exact tab01_2 a0 a1 x0 x1 h0 h1 
  | 3, hf => obtain rfl := Option.some.inj (show some (z0 : NInfo) = some f from hf); exact infoOk_nil
  | 4, hf => obtain rfl := Option.some.inj (show some (z0 : NInfo) = some f from hf); exact infoOk_nil
  | 5, hf => obtain rfl := Option.some.inj (show some (z0 : NInfo) = some f from hf); exact infoOk_nil
  | 6, hf => obtain rfl := Option.some.inj (show some (z0 : NInfo) = some f from hf); exact infoOk_nil
  | 7, hf => obtain rfl := Option.some.inj (show some (z0 : NInfo) = some f from hf); exact infoOk_nil
  | 8, hf => obtain rfl := Option.some.inj (show some (z0 : NInfo) = some f from hf); exact infoOk_nil
  | 9, hf => obtain rfl := Option.some.inj (show some (z0 : NInfo) = some f from hf); exact infoOk_nil
  | 10, hf => obtain rfl := Option.some.inj (show some (z0 : NInfo) = some f from hf); exact infoOk_nil
  | 11, hf => obtain rfl := Option.some.inj (show some (z0 : NInfo) = some f from hf); exact infoOk_nil
  | 12, hf => obtain rfl := Option.some.inj (show some (z0 : NInfo) = some f from hf); exact infoOk_nil
  | 13, hf => obtain rfl := Option.some.inj (show some (⟨none, none, [⟨11, cn 4109, cn 4134, .bool false⟩]⟩ : NInfo) = some f from hf); exact tab01_13 a0 a1 x0 x1 h0 h1 
  | 14, hf => obtain rfl := Option.some.inj (show some (z0 : NInfo) = some f from hf); exact infoOk_nil
  | 15, hf => obtain rfl := Option.some.inj (show some (z0 : NInfo) = some f from hf); exact infoOk_nil
  | 16, hf => obtain rfl := Option.some.inj (show some (z0 : NInfo) = some f from hf); exact infoOk_nil
  | 17, hf => obtain rfl := Option.some.inj (show some (z0 : NInfo) = some f from hf); exact infoOk_nil
  | 18, hf => obtain rfl := Option.some.inj (show some (z0 : NInfo) = some f from hf); exact infoOk_nil
  | 19, hf => obtain rfl := Option.some.inj (show some (z0 : NInfo) = some f from hf); exact infoOk_nil
  | 20, hf => obtain rfl := Option.some.inj (show some (z0 : NInfo) = some f from hf); exact infoOk_nil
  | 21, hf => obtain rfl := Option.some.inj (show some (z0 : NInfo) = some f from hf); exact infoOk_nil
  | 22, hf => obtain rfl := Option.some.inj (show some (z0 : NInfo) = some f from hf); exact infoOk_nil
  | 23, hf => obtain rfl := Option.some.inj (show some (z0 : NInfo) = some f from hf); exact infoOk_nil
  | 24, hf => obtain rfl := Option.some.inj (show some (z0 : NInfo) = some f from hf); exact infoOk_nil
  | 25, hf => obtain rfl := Option.some.inj (show some (z0 : NInfo) = some f from hf); exact infoOk_nil
  | 26, hf => obtain rfl := Option.some.inj (show some (z0 : NInfo) = some f from hf); exact infoOk_nil
  | 27, hf => obtain rfl := Option.some.inj (show some (z0 : NInfo) = some f from hf); exact infoOk_nil
  | 28, hf => obtain rfl := Option.some.inj (show some (z0 : NInfo) = some f from hf); exact infoOk_nil
  | 29, hf => obtain rfl := Option.some.inj (show some (z0 : NInfo) = some f from hf); exact infoOk_nil
  | 30, hf => obtain rfl := Option.some.inj (show some (z0 : NInfo) = some f from hf); exact infoOk_nil
  | 31, hf => obtain rfl := Option.some.inj (show some (z0 : NInfo) = some f from hf); exact infoOk_nil
  | 32, hf => obtain rfl := Option.some.inj (show some (z0 : NInfo) = some f from hf); exact infoOk_nil
  | 33, hf => obtain rfl := Option.some.inj (show some (z0 : NInfo) = some f from hf); exact infoOk_nil
  | 34, hf => obtain rfl := Option.some.inj (show some (z0 : NInfo) = some f from hf); exact infoOk_nil
  | 35, hf => obtain rfl := Option.some.inj (show some (z0 : NInfo) = some f from hf); exact infoOk_nil
  | 36, hf => obtain rfl := Option.some.inj (show some (z0 : NInfo) = some f from hf); exact infoOk_nil
  | 37, hf => obtain rfl := Option.some.inj (show some (z0 : NInfo) = some f from hf); exact infoOk_nil
  | 38, hf => obtain rfl := Option.some.inj (show some (z0 : NInfo) = some f from hf); exact infoOk_nil
  | 39, hf => obtain rfl := Option.some.inj (show some (z0 : NInfo) = some f from hf); exact infoOk_nil
  | 40, hf => obtain rfl := Option.some.inj (show some (z0 : NInfo) = some f from hf); exact infoOk_nil
  | 41, hf => obtain rfl := Option.some.inj (show some (z0 : NInfo) = some f from hf); exact infoOk_nil
  | 42, hf => obtain rfl := Option.some.inj (show some (z0 : NInfo) = some f from hf); exact infoOk_nil
  | 43, hf => obtain rfl := Option.some.inj (show some (z0 : NInfo) = some f from hf); exact infoOk_nil
  | 44, hf => obtain rfl := Option.some.inj (show some (z0 : NInfo) = some f from hf); exact infoOk_nil
  | 45, hf => obtain rfl := Option.some.inj (show some (z0 : NInfo) = some f from hf); exact infoOk_nil
  | 46, hf => obtain rfl := Option.some.inj (show some (z0 : NInfo) = some f from hf); exact infoOk_nil
  | 47, hf => obtain rfl := Option.some.inj (show some (z0 : NInfo) = some f from hf); exact infoOk_nil
  | 48, hf => obtain rfl := Option.some.inj (show some (z0 : NInfo) = some f from hf); exact infoOk_nil
  | 49, hf => obtain rfl := Option.some.inj (show some (z0 : NInfo) = some f from hf); exact infoOk_nil
  | 50, hf => obtain rfl := Option.some.inj (show some (z0 : NInfo) = some f from hf); exact infoOk_nil
  | 51, hf => obtain rfl := Option.some.inj (show some (z0 : NInfo) = some f from hf); exact infoOk_nil
  | 52, hf => obtain rfl := Option.some.inj (show some (z0 : NInfo) = some f from hf); exact infoOk_nil
  | 53, hf => obtain rfl := Option.some.inj (show some (z0 : NInfo) = some f from hf); exact infoOk_nil
  | 54, hf => obtain rfl := Option.some.inj (show some (z0 : NInfo) = some f from hf); exact infoOk_nil
  | n + 55, hf => exact absurd hf (by simp [tab01])
theorem kinv (a0 : Int) (a1 : Int) (x0 : Nat) (x1 : Nat) (h0 : 100 ≤ x0 ∧ x0 < 200) (h1 : 0 ≤ x1 ∧ x1 < 10) (w0 : -9223372036854775808 ≤ a0 ∧ a0 ≤ 9223372036854775807) (w1 : -9223372036854775808 ≤ a1 ∧ a1 ≤ 9223372036854775807) : KInv (symL (base a0 a1 x0 x1)) [some .i64, some .i64, some .i64, some .i64] := by
  intro i k hi
  match i, hi with
  | 0, hi => cases hi; exact ⟨a0, rfl, by rw [inK_iff]; exact w0⟩
  | 1, hi => cases hi; exact ⟨a1, rfl, by rw [inK_iff]; exact w1⟩
  | 2, hi => cases hi; exact ⟨.ofNat x0, rfl, by rw [inK_iff]; show (-9223372036854775808 : Int) ≤ (x0 : Int) ∧ (x0 : Int) ≤ 9223372036854775807; omega⟩
  | 3, hi => cases hi; exact ⟨.ofNat x1, rfl, by rw [inK_iff]; show (-9223372036854775808 : Int) ≤ (x1 : Int) ∧ (x1 : Int) ≤ 9223372036854775807; omega⟩
  | n + 4, hi => cases hi
theorem named_ok (a0 : Int) (a1 : Int) (x0 : Nat) (x1 : Nat) (i : Nat) : named (G a0 a1 x0 x1 i) := symL_named' (mkVals_named (by intro v hv; simp only [base, List.mem_cons, List.not_mem_nil, or_false] at hv; rcases hv with rfl | rfl | rfl | rfl <;> trivial) nam_ok) i
theorem names_ok (a0 : Int) (a1 : Int) (x0 : Nat) (x1 : Nat) (h0 : 100 ≤ x0 ∧ x0 < 200) (h1 : 0 ≤ x1 ∧ x1 < 10) (w0 : -9223372036854775808 ≤ a0 ∧ a0 ≤ 9223372036854775807) (w1 : -9223372036854775808 ≤ a1 ∧ a1 ≤ 9223372036854775807) : NamesOk (G a0 a1 x0 x1) (Names.ofL tab) := namesOk_parts (named_ok a0 a1 x0 x1) len_ok (TabOk.union (symTab_part (l := base a0 a1 x0 x1) rfl (kinv a0 a1 x0 x1 h0 h1 w0 w1) refs_ok sym_ok) (TabOk.union (tab0_ok a0 a1 x0 x1 h0 h1 ) (TabOk.union (tab1_ok a0 a1 x0 x1 h0 h1 ) (tab01_ok a0 a1 x0 x1 h0 h1 ))))
theorem crc_ok (a0 : Int) (a1 : Int) (x0 : Nat) (x1 : Nat) : CrcOk (G a0 a1 x0 x1) crcs := crcsB_ok (l := base a0 a1 x0 x1) refs_ok crcs_ok
noncomputable def pargs0 : List Value := [cn 4098]
noncomputable def pres0 : Value := cn 4102
noncomputable def pargs1 : List Value := [cn 4099]
noncomputable def pres1 : Value := cn 4106
noncomputable def pargs2 : List Value := [cn 4127]
noncomputable def pres2 : Value := cn 4128
noncomputable def pargs3 : List Value := [cn 4099]
noncomputable def pres3 : Value := cn 4106
end Go.Proofs.YtpficieiefgbfaaGreatDoor.topmerge.d31
