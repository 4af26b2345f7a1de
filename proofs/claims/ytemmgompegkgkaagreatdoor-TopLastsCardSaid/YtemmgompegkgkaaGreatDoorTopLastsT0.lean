/- The law TopLasts: names by classes of its inputs, their makings, their tables, and the check of these. -/
import Derived.Test.YtemmgompegkgkaaGreatDoorVH
import Derived.Test.YtemmgompegkgkaaGreatDoorTB
import Derived.KernelRfl
namespace Go.Proofs.YtemmgompegkgkaaGreatDoor.toplasts
open Go Vai
noncomputable abbrev z0w0 : Value := .string ⟨⟨[48, 48, 48, 49, 48, 50, 48, 51, 48, 52, 48, 53, 48, 54, 48, 55, 48, 56, 48, 57, 49, 48, 49, 49, 49, 50, 49, 51, 49, 52, 49, 53, 49, 54, 49, 55, 49, 56, 49, 57, 50, 48, 50, 49, 50, 50, 50, 51, 50, 52, 50, 53, 50, 54, 50, 55, 50, 56, 50, 57, 51, 48, 51, 49, 51, 50, 51, 51, 51, 52, 51, 53, 51, 54, 51, 55, 51, 56, 51, 57, 52, 48, 52, 49, 52, 50, 52, 51, 52, 52, 52, 53, 52, 54, 52, 55, 52, 56, 52, 57, 53, 48, 53, 49, 53, 50, 53, 51, 53, 52, 53, 53, 53, 54, 53, 55, 53, 56, 53, 57, 54, 48, 54, 49, 54, 50, 54, 51, 54, 52, 54, 53, 54, 54, 54, 55, 54, 56, 54, 57, 55, 48, 55, 49, 55, 50, 55, 51, 55, 52, 55, 53, 55, 54, 55, 55, 55, 56, 55, 57, 56, 48, 56, 49, 56, 50, 56, 51, 56, 52, 56, 53, 56, 54, 56, 55, 56, 56, 56, 57, 57, 48, 57, 49, 57, 50, 57, 51, 57, 52, 57, 53, 57, 54, 57, 55, 57, 56, 57, 57]⟩⟩
abbrev z0w1 : List Int := [q1, q1, q1, q1, q1, q1, q1, q1, q1, q1, q2, q2, q2, q2, q2, q2, q2, q2, q2, q2, q3, q3, q3, q3, q3, q3, q3, q3, q3, q3, q4, q4, q4, q4, q4, q4, q4, q4, q4, q4, q5, q5, q5, q5, q5, q5, q5, q5, q5, q5, q6, q6, q6, q6, q6, q6, q6, q6, q6, q6, q7, q7, q7, q7, q7, q7, q7, q7, q7, q7, q8, q8, q8, q8, q8, q8, q8, q8, q8, q8, q9, q9, q9, q9, q9, q9, q9, q9, q9, q9]
abbrev z0w2 : List Int := [q0, q1, q2, q3, q4, q5, q6, q7, q8, q9, q0, q1, q2, q3, q4, q5, q6, q7, q8, q9, q0, q1, q2, q3, q4, q5, q6, q7, q8, q9, q0, q1, q2, q3, q4, q5, q6, q7, q8, q9, q0, q1, q2, q3, q4, q5, q6, q7, q8, q9, q0, q1, q2, q3, q4, q5, q6, q7, q8, q9, q0, q1, q2, q3, q4, q5, q6, q7, q8, q9, q0, q1, q2, q3, q4, q5, q6, q7, q8, q9, q0, q1, q2, q3, q4, q5, q6, q7, q8, q9]
abbrev z0w3 : List Int := [q1, q1, q1, q1, q1, q1, q1, q1, q1, q1, q1, q1, q1, q1, q1, q1, q1, q1, q1, q1, q1, q1, q1, q1, q1, q1, q1, q1, q1, q1, q1, q1, q1, q1, q1, q1, q1, q1, q1, q1, q1, q1, q1, q1, q1, q1, q1, q1, q1, q1, q1, q1, q1, q1, q1, q1, q1, q1, q1, q1, q1, q1, q1, q1, q1, q1, q1, q1, q1, q1, q1, q1, q1, q1, q1, q1, q1, q1, q1, q1, q1, q1, q1, q1, q1, q1, q1, q1, q1, q1, q1, q1, q1, q1, q1, q1, q1, q1, q1, q1, q2, q2, q2, q2, q2, q2, q2, q2, q2, q2, q2, q2, q2, q2, q2, q2, q2, q2, q2, q2, q2, q2, q2, q2, q2, q2, q2, q2, q2, q2, q2, q2, q2, q2, q2, q2, q2, q2, q2, q2, q2, q2, q2, q2, q2, q2, q2, q2, q2, q2]
abbrev z0w4 : List Int := [q0, q0, q0, q0, q0, q0, q0, q0, q0, q0, q1, q1, q1, q1, q1, q1, q1, q1, q1, q1, q2, q2, q2, q2, q2, q2, q2, q2, q2, q2, q3, q3, q3, q3, q3, q3, q3, q3, q3, q3, q4, q4, q4, q4, q4, q4, q4, q4, q4, q4, q5, q5, q5, q5, q5, q5, q5, q5, q5, q5, q6, q6, q6, q6, q6, q6, q6, q6, q6, q6, q7, q7, q7, q7, q7, q7, q7, q7, q7, q7, q8, q8, q8, q8, q8, q8, q8, q8, q8, q8, q9, q9, q9, q9, q9, q9, q9, q9, q9, q9, q0, q0, q0, q0, q0, q0, q0, q0, q0, q0, q1, q1, q1, q1, q1, q1, q1, q1, q1, q1, q2, q2, q2, q2, q2, q2, q2, q2, q2, q2, q3, q3, q3, q3, q3, q3, q3, q3, q3, q3, q4, q4, q4, q4, q4, q4, q4, q4, q4, q4]
abbrev z0w5 : List Int := [q0, q1, q2, q3, q4, q5, q6, q7, q8, q9, q0, q1, q2, q3, q4, q5, q6, q7, q8, q9, q0, q1, q2, q3, q4, q5, q6, q7, q8, q9, q0, q1, q2, q3, q4, q5, q6, q7, q8, q9, q0, q1, q2, q3, q4, q5, q6, q7, q8, q9, q0, q1, q2, q3, q4, q5, q6, q7, q8, q9, q0, q1, q2, q3, q4, q5, q6, q7, q8, q9, q0, q1, q2, q3, q4, q5, q6, q7, q8, q9, q0, q1, q2, q3, q4, q5, q6, q7, q8, q9, q0, q1, q2, q3, q4, q5, q6, q7, q8, q9, q0, q1, q2, q3, q4, q5, q6, q7, q8, q9, q0, q1, q2, q3, q4, q5, q6, q7, q8, q9, q0, q1, q2, q3, q4, q5, q6, q7, q8, q9, q0, q1, q2, q3, q4, q5, q6, q7, q8, q9, q0, q1, q2, q3, q4, q5, q6, q7, q8, q9]
abbrev z0w6 : List Int := [.ofNat 7, .ofNat 7, .ofNat 7, .ofNat 7, .ofNat 7, .ofNat 7, .ofNat 7, .ofNat 7, .ofNat 7, .ofNat 7, .ofNat 7, .ofNat 7, .ofNat 7, .ofNat 7, .ofNat 7, .ofNat 7, .ofNat 7, .ofNat 7, .ofNat 7, .ofNat 7, .ofNat 7, .ofNat 7, .ofNat 7, .ofNat 7, .ofNat 7, .ofNat 7, .ofNat 7, .ofNat 7, .ofNat 8, .ofNat 8, .ofNat 8, .ofNat 8, .ofNat 8, .ofNat 8, .ofNat 8, .ofNat 8, .ofNat 8, .ofNat 8, .ofNat 8, .ofNat 8, .ofNat 8, .ofNat 8, .ofNat 8, .ofNat 8, .ofNat 8, .ofNat 8, .ofNat 8, .ofNat 8, .ofNat 8, .ofNat 8, .ofNat 8, .ofNat 8, .ofNat 8, .ofNat 8, .ofNat 8, .ofNat 8, .ofNat 8, .ofNat 8, .ofNat 8, .ofNat 8, .ofNat 8, .ofNat 8, .ofNat 8, .ofNat 8, .ofNat 8, .ofNat 8, .ofNat 8, .ofNat 8, .ofNat 8, .ofNat 8, .ofNat 8, .ofNat 8, .ofNat 8, .ofNat 8, .ofNat 8, .ofNat 8, .ofNat 8, .ofNat 8, .ofNat 8, .ofNat 8, .ofNat 8, .ofNat 8, .ofNat 8, .ofNat 8, .ofNat 8, .ofNat 8, .ofNat 8, .ofNat 8, .ofNat 8, .ofNat 8, .ofNat 8, .ofNat 8, .ofNat 8, .ofNat 8, .ofNat 8, .ofNat 8, .ofNat 8, .ofNat 8, .ofNat 8, .ofNat 8, .ofNat 8, .ofNat 8, .ofNat 8, .ofNat 8, .ofNat 8, .ofNat 8, .ofNat 8, .ofNat 8, .ofNat 8, .ofNat 8, .ofNat 8, .ofNat 8, .ofNat 8, .ofNat 8, .ofNat 8, .ofNat 8, .ofNat 8, .ofNat 8, .ofNat 8, .ofNat 8, .ofNat 8, .ofNat 8, .ofNat 8, .ofNat 8, .ofNat 8, .ofNat 8, .ofNat 8, .ofNat 8, .ofNat 8, .ofNat 8, .ofNat 8, .ofNat 8, .ofNat 8, .ofNat 8, .ofNat 8, .ofNat 8, .ofNat 8, .ofNat 8, .ofNat 8, .ofNat 8, .ofNat 8, .ofNat 8, .ofNat 8, .ofNat 8, .ofNat 8, .ofNat 8, .ofNat 8, .ofNat 8, .ofNat 8, .ofNat 8]
noncomputable abbrev z0w7 : List Value := [bn 1, bn 3, bn 0, bn 49, bn 47, bn 104, bn 0, bn 0, bn 0, bn 0, bn 0, bn 0, bn 0, bn 0, bn 0, bn 0, bn 0, bn 0, bn 0, bn 0, bn 0, bn 0, bn 88, bn 2, bn 0, bn 0, bn 0, bn 0, bn 0, bn 0, bn 88, bn 2, bn 0, bn 0, bn 0, bn 0, bn 0, bn 0, bn 0, bn 1, bn 4, bn 0, bn 10, bn 0, bn 0, cn 4107, bn 1, bn 10, bn 0, bn 47, bn 101, bn 116, bn 99, bn 47, bn 104, bn 111, bn 115, bn 116, bn 115, bn 1, bn 0, bn 0, bn 0, bn 0, bn 0, bn 0, bn 0]
noncomputable abbrev z0w8 : List Value := [bn 1, bn 3, bn 0, bn 49, bn 47, bn 104, bn 0, bn 0, bn 0, bn 0, bn 0, bn 0, bn 0, bn 0, bn 0, bn 0, bn 0, bn 0, bn 0, bn 0, bn 0, bn 0, bn 88, bn 2, bn 0, bn 0, bn 0, bn 0, bn 0, bn 0, bn 88, bn 2, bn 0, bn 0, bn 0, bn 0, bn 0, bn 0, bn 0, bn 1, bn 4, bn 0, bn 10, bn 0, bn 0, cn 4108, bn 1, bn 10, bn 0, bn 47, bn 101, bn 116, bn 99, bn 47, bn 104, bn 111, bn 115, bn 116, bn 115, bn 1, bn 0, bn 0, bn 0, bn 0, bn 0, bn 0, bn 0]
noncomputable abbrev z0w9 : List Value := [bn 1, bn 3, bn 0, bn 49, bn 47, bn 104, bn 0, bn 0, bn 0, bn 0, bn 0, bn 0, bn 0, bn 0, bn 0, bn 0, bn 0, bn 0, bn 0, bn 0, bn 0, bn 0, bn 88, bn 2, bn 0, bn 0, bn 0, bn 0, bn 0, bn 0, bn 88, bn 2, bn 0, bn 0, bn 0, bn 0, bn 0, bn 0, bn 0, bn 1, bn 4, bn 0, bn 10, bn 0, bn 0, cn 4115, bn 1, bn 10, bn 0, bn 47, bn 101, bn 116, bn 99, bn 47, bn 104, bn 111, bn 115, bn 116, bn 115, bn 1, bn 0, bn 0, bn 0, bn 0, bn 0, bn 0, bn 0]
noncomputable abbrev z0w10 : List Value := [bn 1, bn 3, bn 0, bn 49, bn 47, bn 104, bn 0, bn 0, bn 0, bn 0, bn 0, bn 0, bn 0, bn 0, bn 0, bn 0, bn 0, bn 0, bn 0, bn 0, bn 0, bn 0, bn 88, bn 2, bn 0, bn 0, bn 0, bn 0, bn 0, bn 0, bn 88, bn 2, bn 0, bn 0, bn 0, bn 0, bn 0, bn 0, bn 0, bn 1, bn 4, bn 0, bn 10, bn 0, bn 0, cn 4116, bn 1, bn 10, bn 0, bn 47, bn 101, bn 116, bn 99, bn 47, bn 104, bn 111, bn 115, bn 116, bn 115, bn 1, bn 0, bn 0, bn 0, bn 0, bn 0, bn 0, bn 0]
noncomputable abbrev z0w11 : List Value := [bn 1, bn 3, bn 0, bn 49, bn 47, bn 104, bn 0, bn 0, bn 0, bn 0, bn 0, bn 0, bn 0, bn 0, bn 0, bn 0, bn 0, bn 0, bn 0, bn 0, bn 0, bn 0, bn 88, bn 2, bn 0, bn 0, bn 0, bn 0, bn 0, bn 0, bn 88, bn 2, bn 0, bn 0, bn 0, bn 0, bn 0, bn 0, bn 0, bn 1, bn 4, bn 0, bn 10, bn 0, bn 0, cn 4129, bn 1, bn 10, bn 0, bn 47, bn 101, bn 116, bn 99, bn 47, bn 104, bn 111, bn 115, bn 116, bn 115, bn 1, bn 0, bn 0, bn 0, bn 0, bn 0, bn 0, bn 0]
noncomputable abbrev z0w12 : List Value := [bn 1, bn 3, bn 0, bn 49, bn 47, bn 104, bn 0, bn 0, bn 0, bn 0, bn 0, bn 0, bn 0, bn 0, bn 0, bn 0, bn 0, bn 0, bn 0, bn 0, bn 0, bn 0, bn 88, bn 2, bn 0, bn 0, bn 0, bn 0, bn 0, bn 0, bn 88, bn 2, bn 0, bn 0, bn 0, bn 0, bn 0, bn 0, bn 0, bn 1, bn 4, bn 0, bn 10, bn 0, bn 0, cn 4130, bn 1, bn 10, bn 0, bn 47, bn 101, bn 116, bn 99, bn 47, bn 104, bn 111, bn 115, bn 116, bn 115, bn 1, bn 0, bn 0, bn 0, bn 0, bn 0, bn 0, bn 0]
noncomputable abbrev z0w13 : List Value := [bn 1, bn 3, bn 0, bn 49, bn 47, bn 104, bn 0, bn 0, bn 0, bn 0, bn 0, bn 0, bn 0, bn 0, bn 0, bn 0, bn 0, bn 0, bn 0, bn 0, bn 0, bn 0, bn 88, bn 2, bn 0, bn 0, bn 0, bn 0, bn 0, bn 0, bn 176, bn 4, bn 0, bn 0, bn 0, bn 0, bn 0, bn 0, bn 0, bn 1, bn 4, bn 0, bn 10, bn 0, bn 0, cn 4107, bn 1, bn 10, bn 0, bn 47, bn 101, bn 116, bn 99, bn 47, bn 104, bn 111, bn 115, bn 116, bn 115, bn 1, bn 0, bn 0, bn 0, bn 0, bn 0, bn 0, bn 0]
noncomputable abbrev z0w14 : List Value := [bn 1, bn 3, bn 0, bn 49, bn 47, bn 104, bn 0, bn 0, bn 0, bn 0, bn 0, bn 0, bn 0, bn 0, bn 0, bn 0, bn 0, bn 0, bn 0, bn 0, bn 0, bn 0, bn 88, bn 2, bn 0, bn 0, bn 0, bn 0, bn 0, bn 0, cn 4136, cn 4138, bn 0, bn 0, bn 0, bn 0, bn 0, bn 0, bn 0, bn 1, bn 4, bn 0, bn 10, bn 0, bn 0, cn 4108, bn 1, bn 10, bn 0, bn 47, bn 101, bn 116, bn 99, bn 47, bn 104, bn 111, bn 115, bn 116, bn 115, bn 1, bn 0, bn 0, bn 0, bn 0, bn 0, bn 0, bn 0]
noncomputable abbrev z0w15 : List Value := [bn 1, bn 3, bn 0, bn 49, bn 47, bn 104, bn 0, bn 0, bn 0, bn 0, bn 0, bn 0, bn 0, bn 0, bn 0, bn 0, bn 0, bn 0, bn 0, bn 0, bn 0, bn 0, bn 88, bn 2, bn 0, bn 0, bn 0, bn 0, bn 0, bn 0, bn 176, bn 4, bn 0, bn 0, bn 0, bn 0, bn 0, bn 0, bn 0, bn 1, bn 4, bn 0, bn 10, bn 0, bn 0, cn 4115, bn 1, bn 10, bn 0, bn 47, bn 101, bn 116, bn 99, bn 47, bn 104, bn 111, bn 115, bn 116, bn 115, bn 1, bn 0, bn 0, bn 0, bn 0, bn 0, bn 0, bn 0]
noncomputable abbrev z0w16 : List Value := [bn 1, bn 3, bn 0, bn 49, bn 47, bn 104, bn 0, bn 0, bn 0, bn 0, bn 0, bn 0, bn 0, bn 0, bn 0, bn 0, bn 0, bn 0, bn 0, bn 0, bn 0, bn 0, bn 88, bn 2, bn 0, bn 0, bn 0, bn 0, bn 0, bn 0, cn 4143, cn 4145, bn 0, bn 0, bn 0, bn 0, bn 0, bn 0, bn 0, bn 1, bn 4, bn 0, bn 10, bn 0, bn 0, cn 4116, bn 1, bn 10, bn 0, bn 47, bn 101, bn 116, bn 99, bn 47, bn 104, bn 111, bn 115, bn 116, bn 115, bn 1, bn 0, bn 0, bn 0, bn 0, bn 0, bn 0, bn 0]
noncomputable abbrev z0w17 : List Value := [bn 1, bn 3, bn 0, bn 49, bn 47, bn 104, bn 0, bn 0, bn 0, bn 0, bn 0, bn 0, bn 0, bn 0, bn 0, bn 0, bn 0, bn 0, bn 0, bn 0, bn 0, bn 0, bn 88, bn 2, bn 0, bn 0, bn 0, bn 0, bn 0, bn 0, bn 176, bn 4, bn 0, bn 0, bn 0, bn 0, bn 0, bn 0, bn 0, bn 1, bn 4, bn 0, bn 10, bn 0, bn 0, cn 4129, bn 1, bn 10, bn 0, bn 47, bn 101, bn 116, bn 99, bn 47, bn 104, bn 111, bn 115, bn 116, bn 115, bn 1, bn 0, bn 0, bn 0, bn 0, bn 0, bn 0, bn 0]
noncomputable abbrev z0w18 : List Value := [bn 1, bn 3, bn 0, bn 49, bn 47, bn 104, bn 0, bn 0, bn 0, bn 0, bn 0, bn 0, bn 0, bn 0, bn 0, bn 0, bn 0, bn 0, bn 0, bn 0, bn 0, bn 0, bn 88, bn 2, bn 0, bn 0, bn 0, bn 0, bn 0, bn 0, cn 4157, cn 4159, bn 0, bn 0, bn 0, bn 0, bn 0, bn 0, bn 0, bn 1, bn 4, bn 0, bn 10, bn 0, bn 0, cn 4130, bn 1, bn 10, bn 0, bn 47, bn 101, bn 116, bn 99, bn 47, bn 104, bn 111, bn 115, bn 116, bn 115, bn 1, bn 0, bn 0, bn 0, bn 0, bn 0, bn 0, bn 0]
end Go.Proofs.YtemmgompegkgkaaGreatDoor.toplasts
namespace Go.Proofs.YtemmgompegkgkaaGreatDoor.toplasts.d1w0f
open Go Vai
set_option linter.unusedVariables false
set_option linter.unusedSimpArgs false
noncomputable def ds : List NDef := [.idx .u8 (cn 4098) 0 [q0, q1, q2, q3, q4, q5, q6, q7, q8, q9],
  .str [cn 4099],
  .str [bn 49, bn 48, bn 46, bn 48, bn 46, bn 48, bn 46, cn 4099],
  .str [bn 49, bn 48, bn 46, bn 48, bn 46, bn 48, bn 46, cn 4099, bn 32, bn 104, bn 10],
  .str [bn 49, bn 48, bn 46, bn 48, bn 46, bn 48, bn 46, cn 4099, bn 32, bn 104],
  .ent 34 (cn 4099) (bn 0),
  .str [bn 48, bn 46, bn 48, bn 46, cn 4099],
  .str [bn 48, bn 46, cn 4099],
  .ent 1 (cn 4099) (bn 48),
  .ent 39 (cn 4107) (bn 0),
  .str [bn 10, bn 0, bn 0, cn 4107],
  .str [bn 0, bn 0, bn 0, bn 0, bn 0, bn 0, bn 0, bn 0, bn 0, bn 0, bn 255, bn 255, bn 10, bn 0, bn 0, cn 4107],
  .crc z0w7,
  .ent 39 (cn 4111) (bn 0),
  .ent 9 (cn 4112) (jn 0),
  .ent 36 (cn 4113) (bn 0),
  .ent 9 (cn 4112) (jn 8),
  .ent 36 (cn 4115) (bn 0),
  .ent 9 (cn 4112) (jn 16),
  .ent 36 (cn 4117) (bn 0),
  .ent 9 (cn 4112) (jn 24),
  .ent 36 (cn 4119) (bn 0),
  .ent 39 (cn 4114) (bn 0),
  .ent 8 (cn 4121) (jn 0),
  .ent 6 (.int .u64 (.ofNat 0)) (cn 4122),
  .ent 39 (cn 4116) (bn 0),
  .ent 8 (cn 4124) (jn 8),
  .ent 6 (cn 4123) (cn 4125),
  .ent 39 (cn 4118) (bn 0),
  .ent 8 (cn 4127) (jn 16),
  .ent 6 (cn 4126) (cn 4128),
  .ent 39 (cn 4120) (bn 0),
  .ent 8 (cn 4130) (jn 24),
  .ent 6 (cn 4129) (cn 4131)]
noncomputable def tabS : List NInfo := [z0,
  z0,
  z0,
  ⟨none, none, [⟨34, cn 4099, bn 0, cn 4104⟩, ⟨1, cn 4099, bn 48, cn 4107⟩]⟩,
  ⟨none, some [cn 4099], []⟩,
  ⟨none, some [bn 49, bn 48, bn 46, bn 48, bn 46, bn 48, bn 46, cn 4099], []⟩,
  ⟨none, some [bn 49, bn 48, bn 46, bn 48, bn 46, bn 48, bn 46, cn 4099, bn 32, bn 104, bn 10], []⟩,
  ⟨none, some [bn 49, bn 48, bn 46, bn 48, bn 46, bn 48, bn 46, cn 4099, bn 32, bn 104], []⟩,
  z0,
  ⟨none, some [bn 48, bn 46, bn 48, bn 46, cn 4099], []⟩,
  ⟨none, some [bn 48, bn 46, cn 4099], []⟩,
  ⟨none, none, [⟨39, cn 4107, bn 0, cn 4108⟩]⟩,
  z0,
  ⟨none, some [bn 10, bn 0, bn 0, cn 4107], []⟩,
  ⟨none, some [bn 0, bn 0, bn 0, bn 0, bn 0, bn 0, bn 0, bn 0, bn 0, bn 0, bn 255, bn 255, bn 10, bn 0, bn 0, cn 4107], []⟩,
  ⟨some (.u32, (.ofNat 0), (.ofNat 4294967295)), none, [⟨39, cn 4111, bn 0, cn 4112⟩]⟩,
  ⟨some (.u64, (.ofNat 0), (.ofNat 18446744073709551615)), none, [⟨9, cn 4112, jn 0, cn 4113⟩, ⟨9, cn 4112, jn 8, cn 4115⟩, ⟨9, cn 4112, jn 16, cn 4117⟩, ⟨9, cn 4112, jn 24, cn 4119⟩]⟩,
  ⟨some (.u64, (.ofNat 0), (.ofNat 18446744073709551615)), none, [⟨36, cn 4113, bn 0, cn 4114⟩]⟩,
  ⟨some (.u8, (.ofNat 0), (.ofNat 255)), none, [⟨39, cn 4114, bn 0, cn 4121⟩]⟩,
  ⟨some (.u64, (.ofNat 0), (.ofNat 18446744073709551615)), none, [⟨36, cn 4115, bn 0, cn 4116⟩]⟩,
  ⟨some (.u8, (.ofNat 0), (.ofNat 255)), none, [⟨39, cn 4116, bn 0, cn 4124⟩]⟩,
  ⟨some (.u64, (.ofNat 0), (.ofNat 18446744073709551615)), none, [⟨36, cn 4117, bn 0, cn 4118⟩]⟩,
  ⟨some (.u8, (.ofNat 0), (.ofNat 255)), none, [⟨39, cn 4118, bn 0, cn 4127⟩]⟩,
  ⟨some (.u64, (.ofNat 0), (.ofNat 18446744073709551615)), none, [⟨36, cn 4119, bn 0, cn 4120⟩]⟩,
  ⟨some (.u8, (.ofNat 0), (.ofNat 255)), none, [⟨39, cn 4120, bn 0, cn 4130⟩]⟩,
  ⟨some (.u64, (.ofNat 0), (.ofNat 18446744073709551615)), none, [⟨8, cn 4121, jn 0, cn 4122⟩]⟩,
  ⟨some (.u64, (.ofNat 0), (.ofNat 18446744073709551615)), none, [⟨6, .int .u64 (.ofNat 0), cn 4122, cn 4123⟩]⟩,
  ⟨some (.u64, (.ofNat 0), (.ofNat 18446744073709551615)), none, [⟨6, cn 4123, cn 4125, cn 4126⟩]⟩,
  ⟨some (.u64, (.ofNat 0), (.ofNat 18446744073709551615)), none, [⟨8, cn 4124, jn 8, cn 4125⟩]⟩,
  ⟨some (.u64, (.ofNat 0), (.ofNat 18446744073709551615)), none, []⟩,
  ⟨some (.u64, (.ofNat 0), (.ofNat 18446744073709551615)), none, [⟨6, cn 4126, cn 4128, cn 4129⟩]⟩,
  ⟨some (.u64, (.ofNat 0), (.ofNat 18446744073709551615)), none, [⟨8, cn 4127, jn 16, cn 4128⟩]⟩,
  ⟨some (.u64, (.ofNat 0), (.ofNat 18446744073709551615)), none, []⟩,
  ⟨some (.u64, (.ofNat 0), (.ofNat 18446744073709551615)), none, [⟨6, cn 4129, cn 4131, cn 4132⟩]⟩,
  ⟨some (.u64, (.ofNat 0), (.ofNat 18446744073709551615)), none, [⟨8, cn 4130, jn 24, cn 4131⟩]⟩,
  ⟨some (.u64, (.ofNat 0), (.ofNat 18446744073709551615)), none, []⟩,
  ⟨some (.u64, (.ofNat 0), (.ofNat 18446744073709551615)), none, []⟩]
noncomputable def tab0 : List NInfo := [z0,
  z0,
  ⟨some (.i64, (.ofNat 0), (.ofNat 9)), none, []⟩,
  ⟨some (.u8, (.ofNat 48), (.ofNat 57)), none, []⟩,
  z0,
  z0,
  z0,
  z0,
  ⟨some (.i32, (.ofNat 48), (.ofNat 57)), none, []⟩,
  z0,
  z0,
  ⟨some (.u8, (.ofNat 0), (.ofNat 9)), none, []⟩,
  ⟨some (.u64, (.ofNat 0), (.ofNat 9)), none, [⟨0, .int .u64 (.ofNat 0), cn 4108, cn 4108⟩, ⟨35, cn 4108, bn 0, cn 4098⟩, ⟨36, cn 4108, bn 0, cn 4107⟩]⟩,
  z0,
  z0,
  z0,
  z0,
  z0,
  z0,
  z0,
  z0,
  z0,
  z0,
  z0,
  z0,
  z0,
  z0,
  z0,
  z0,
  z0,
  z0,
  z0,
  z0,
  z0,
  z0,
  z0,
  ⟨none, none, [⟨12, cn 4132, cn 4112, .bool false⟩]⟩]
noncomputable def tab : List NInfo := (unionT tabS tab0)
noncomputable def crcs : List (List Value × Value) := [(z0w7, cn 4111)]
noncomputable abbrev base (a0 : Int) (a1 : Int) (x0 : Nat) : List Value := [.int .i64 a0, .int .i64 a1, .int .i64 (.ofNat x0)]
noncomputable abbrev G (a0 : Int) (a1 : Int) (x0 : Nat) : Sym := symL (mkVals ds (base a0 a1 x0))
set_option maxRecDepth 100000 in
theorem refs_ok : refsAll ds 3 = true := by kernel_rfl
set_option maxRecDepth 100000 in
theorem nam_ok : namDs ds = true := by kernel_rfl
set_option maxRecDepth 100000 in
theorem len_ok : Nat.ble tab.length 4096 = true := by kernel_rfl
set_option maxRecDepth 100000 in
theorem crcs_ok : crcsB ds 3 crcs = true := by kernel_rfl
set_option maxRecDepth 100000 in
theorem sym_ok : symTab (ksOf ds [some .i64, some .i64, some .i64]) ds 3 tabS 0 = true := by kernel_rfl
theorem gb0 (a0 : Int) (a1 : Int) (x0 : Nat) : G a0 a1 x0 (4096 - 4096) = .int .i64 a0 := by
  show symL (mkVals ds (base a0 a1 x0)) 0 = _
  rw [symL_low ds (base a0 a1 x0) 0 (by simp)]
  rfl
theorem gb1 (a0 : Int) (a1 : Int) (x0 : Nat) : G a0 a1 x0 (4097 - 4096) = .int .i64 a1 := by
  show symL (mkVals ds (base a0 a1 x0)) 1 = _
  rw [symL_low ds (base a0 a1 x0) 1 (by simp)]
  rfl
theorem gb2 (a0 : Int) (a1 : Int) (x0 : Nat) : G a0 a1 x0 (4098 - 4096) = .int .i64 (.ofNat x0) := by
  show symL (mkVals ds (base a0 a1 x0)) 2 = _
  rw [symL_low ds (base a0 a1 x0) 2 (by simp)]
  rfl
set_option maxRecDepth 100000 in
theorem tab0_all (a0 : Int) (a1 : Int) : allB 10 (fun i0 => tabB (G a0 a1 (0 + i0)) tab0 0) = true := by kernel_rfl
theorem tab0_ok (a0 : Int) (a1 : Int) (x0 : Nat) (h0 : 0 ≤ x0 ∧ x0 < 10) : TabOk (G a0 a1 x0) tab0 := by
  have h := (allB_spec (tab0_all a0 a1 ) (x0 - 0) (by omega))
  rw [show 0 + (x0 - 0) = x0 by omega] at h
  exact tabB_part h
theorem kinv (a0 : Int) (a1 : Int) (x0 : Nat) (h0 : 0 ≤ x0 ∧ x0 < 10) (w0 : -9223372036854775808 ≤ a0 ∧ a0 ≤ 9223372036854775807) (w1 : -9223372036854775808 ≤ a1 ∧ a1 ≤ 9223372036854775807) : KInv (symL (base a0 a1 x0)) [some .i64, some .i64, some .i64] := by
  intro i k hi
  match i, hi with
  | 0, hi => cases hi; exact ⟨a0, rfl, by rw [inK_iff]; exact w0⟩
  | 1, hi => cases hi; exact ⟨a1, rfl, by rw [inK_iff]; exact w1⟩
  | 2, hi => cases hi; exact ⟨.ofNat x0, rfl, by rw [inK_iff]; show (-9223372036854775808 : Int) ≤ (x0 : Int) ∧ (x0 : Int) ≤ 9223372036854775807; omega⟩
  | n + 3, hi => cases hi
theorem named_ok (a0 : Int) (a1 : Int) (x0 : Nat) (i : Nat) : named (G a0 a1 x0 i) := symL_named' (mkVals_named (by intro v hv; simp only [base, List.mem_cons, List.not_mem_nil, or_false] at hv; rcases hv with rfl | rfl | rfl <;> trivial) nam_ok) i
theorem names_ok (a0 : Int) (a1 : Int) (x0 : Nat) (h0 : 0 ≤ x0 ∧ x0 < 10) (w0 : -9223372036854775808 ≤ a0 ∧ a0 ≤ 9223372036854775807) (w1 : -9223372036854775808 ≤ a1 ∧ a1 ≤ 9223372036854775807) : NamesOk (G a0 a1 x0) (Names.ofL tab) := namesOk_parts (named_ok a0 a1 x0) len_ok (TabOk.union (symTab_part (l := base a0 a1 x0) rfl (kinv a0 a1 x0 h0 w0 w1) refs_ok sym_ok) (tab0_ok a0 a1 x0 h0 ))
theorem crc_ok (a0 : Int) (a1 : Int) (x0 : Nat) : CrcOk (G a0 a1 x0) crcs := crcsB_ok (l := base a0 a1 x0) refs_ok crcs_ok
noncomputable def pargs0 : List Value := [cn 4098]
noncomputable def pres0 : Value := cn 4100
noncomputable def pargs1 : List Value := [cn 4098]
noncomputable def pres1 : Value := cn 4100
end Go.Proofs.YtemmgompegkgkaaGreatDoor.toplasts.d1w0f
namespace Go.Proofs.YtemmgompegkgkaaGreatDoor.toplasts.d1w1f
open Go Vai
set_option linter.unusedVariables false
set_option linter.unusedSimpArgs false
noncomputable def ds : List NDef := [.idx .u8 (cn 4098) 0 [q0, q1, q2, q3, q4, q5, q6, q7, q8, q9],
  .str [cn 4100],
  .str [bn 49, bn 48, bn 46, bn 48, bn 46, bn 48, bn 46, cn 4100],
  .str [bn 49, bn 48, bn 46, bn 48, bn 46, bn 48, bn 46, cn 4100, bn 32, bn 104, bn 10],
  .str [bn 49, bn 48, bn 46, bn 48, bn 46, bn 48, bn 46, cn 4100, bn 32, bn 104],
  .ent 34 (cn 4100) (bn 0),
  .str [bn 48, bn 46, bn 48, bn 46, cn 4100],
  .str [bn 48, bn 46, cn 4100],
  .ent 1 (cn 4100) (bn 48),
  .ent 39 (cn 4108) (bn 0),
  .str [bn 10, bn 0, bn 0, cn 4108],
  .str [bn 0, bn 0, bn 0, bn 0, bn 0, bn 0, bn 0, bn 0, bn 0, bn 0, bn 255, bn 255, bn 10, bn 0, bn 0, cn 4108],
  .crc z0w8,
  .ent 39 (cn 4112) (bn 0),
  .ent 9 (cn 4113) (jn 0),
  .ent 36 (cn 4114) (bn 0),
  .ent 9 (cn 4113) (jn 8),
  .ent 36 (cn 4116) (bn 0),
  .ent 9 (cn 4113) (jn 16),
  .ent 36 (cn 4118) (bn 0),
  .ent 9 (cn 4113) (jn 24),
  .ent 36 (cn 4120) (bn 0),
  .ent 39 (cn 4115) (bn 0),
  .ent 8 (cn 4122) (jn 0),
  .ent 6 (.int .u64 (.ofNat 0)) (cn 4123),
  .ent 39 (cn 4117) (bn 0),
  .ent 8 (cn 4125) (jn 8),
  .ent 6 (cn 4124) (cn 4126),
  .ent 39 (cn 4119) (bn 0),
  .ent 8 (cn 4128) (jn 16),
  .ent 6 (cn 4127) (cn 4129),
  .ent 39 (cn 4121) (bn 0),
  .ent 8 (cn 4131) (jn 24),
  .ent 6 (cn 4130) (cn 4132)]
noncomputable def tabS : List NInfo := [z0,
  z0,
  z0,
  z0,
  ⟨none, none, [⟨34, cn 4100, bn 0, cn 4105⟩, ⟨1, cn 4100, bn 48, cn 4108⟩]⟩,
  ⟨none, some [cn 4100], []⟩,
  ⟨none, some [bn 49, bn 48, bn 46, bn 48, bn 46, bn 48, bn 46, cn 4100], []⟩,
  ⟨none, some [bn 49, bn 48, bn 46, bn 48, bn 46, bn 48, bn 46, cn 4100, bn 32, bn 104, bn 10], []⟩,
  ⟨none, some [bn 49, bn 48, bn 46, bn 48, bn 46, bn 48, bn 46, cn 4100, bn 32, bn 104], []⟩,
  z0,
  ⟨none, some [bn 48, bn 46, bn 48, bn 46, cn 4100], []⟩,
  ⟨none, some [bn 48, bn 46, cn 4100], []⟩,
  ⟨none, none, [⟨39, cn 4108, bn 0, cn 4109⟩]⟩,
  z0,
  ⟨none, some [bn 10, bn 0, bn 0, cn 4108], []⟩,
  ⟨none, some [bn 0, bn 0, bn 0, bn 0, bn 0, bn 0, bn 0, bn 0, bn 0, bn 0, bn 255, bn 255, bn 10, bn 0, bn 0, cn 4108], []⟩,
  ⟨some (.u32, (.ofNat 0), (.ofNat 4294967295)), none, [⟨39, cn 4112, bn 0, cn 4113⟩]⟩,
  ⟨some (.u64, (.ofNat 0), (.ofNat 18446744073709551615)), none, [⟨9, cn 4113, jn 0, cn 4114⟩, ⟨9, cn 4113, jn 8, cn 4116⟩, ⟨9, cn 4113, jn 16, cn 4118⟩, ⟨9, cn 4113, jn 24, cn 4120⟩]⟩,
  ⟨some (.u64, (.ofNat 0), (.ofNat 18446744073709551615)), none, [⟨36, cn 4114, bn 0, cn 4115⟩]⟩,
  ⟨some (.u8, (.ofNat 0), (.ofNat 255)), none, [⟨39, cn 4115, bn 0, cn 4122⟩]⟩,
  ⟨some (.u64, (.ofNat 0), (.ofNat 18446744073709551615)), none, [⟨36, cn 4116, bn 0, cn 4117⟩]⟩,
  ⟨some (.u8, (.ofNat 0), (.ofNat 255)), none, [⟨39, cn 4117, bn 0, cn 4125⟩]⟩,
  ⟨some (.u64, (.ofNat 0), (.ofNat 18446744073709551615)), none, [⟨36, cn 4118, bn 0, cn 4119⟩]⟩,
  ⟨some (.u8, (.ofNat 0), (.ofNat 255)), none, [⟨39, cn 4119, bn 0, cn 4128⟩]⟩,
  ⟨some (.u64, (.ofNat 0), (.ofNat 18446744073709551615)), none, [⟨36, cn 4120, bn 0, cn 4121⟩]⟩,
  ⟨some (.u8, (.ofNat 0), (.ofNat 255)), none, [⟨39, cn 4121, bn 0, cn 4131⟩]⟩,
  ⟨some (.u64, (.ofNat 0), (.ofNat 18446744073709551615)), none, [⟨8, cn 4122, jn 0, cn 4123⟩]⟩,
  ⟨some (.u64, (.ofNat 0), (.ofNat 18446744073709551615)), none, [⟨6, .int .u64 (.ofNat 0), cn 4123, cn 4124⟩]⟩,
  ⟨some (.u64, (.ofNat 0), (.ofNat 18446744073709551615)), none, [⟨6, cn 4124, cn 4126, cn 4127⟩]⟩,
  ⟨some (.u64, (.ofNat 0), (.ofNat 18446744073709551615)), none, [⟨8, cn 4125, jn 8, cn 4126⟩]⟩,
  ⟨some (.u64, (.ofNat 0), (.ofNat 18446744073709551615)), none, []⟩,
  ⟨some (.u64, (.ofNat 0), (.ofNat 18446744073709551615)), none, [⟨6, cn 4127, cn 4129, cn 4130⟩]⟩,
  ⟨some (.u64, (.ofNat 0), (.ofNat 18446744073709551615)), none, [⟨8, cn 4128, jn 16, cn 4129⟩]⟩,
  ⟨some (.u64, (.ofNat 0), (.ofNat 18446744073709551615)), none, []⟩,
  ⟨some (.u64, (.ofNat 0), (.ofNat 18446744073709551615)), none, [⟨6, cn 4130, cn 4132, cn 4133⟩]⟩,
  ⟨some (.u64, (.ofNat 0), (.ofNat 18446744073709551615)), none, [⟨8, cn 4131, jn 24, cn 4132⟩]⟩,
  ⟨some (.u64, (.ofNat 0), (.ofNat 18446744073709551615)), none, []⟩,
  ⟨some (.u64, (.ofNat 0), (.ofNat 18446744073709551615)), none, []⟩]
noncomputable def tab0 : List NInfo := [z0,
  z0,
  ⟨some (.i64, (.ofNat 0), (.ofNat 9)), none, []⟩,
  z0,
  ⟨some (.u8, (.ofNat 48), (.ofNat 57)), none, []⟩,
  z0,
  z0,
  z0,
  z0,
  ⟨some (.i32, (.ofNat 48), (.ofNat 57)), none, []⟩,
  z0,
  z0,
  ⟨some (.u8, (.ofNat 0), (.ofNat 9)), none, []⟩,
  ⟨some (.u64, (.ofNat 0), (.ofNat 9)), none, [⟨0, .int .u64 (.ofNat 0), cn 4109, cn 4109⟩, ⟨35, cn 4109, bn 0, cn 4098⟩, ⟨36, cn 4109, bn 0, cn 4108⟩]⟩,
  z0,
  z0,
  z0,
  z0,
  z0,
  z0,
  z0,
  z0,
  z0,
  z0,
  z0,
  z0,
  z0,
  z0,
  z0,
  z0,
  z0,
  z0,
  z0,
  z0,
  z0,
  z0,
  z0,
  ⟨none, none, [⟨12, cn 4133, cn 4113, .bool false⟩]⟩]
noncomputable def tab1 : List NInfo := [z0,
  z0,
  z0,
  ⟨some (.i64, (.ofNat 1), (.ofNat 599)), none, [⟨0, jn 0, cn 4099, cn 4099⟩]⟩,
  z0,
  z0,
  z0,
  z0,
  z0,
  z0,
  z0,
  z0,
  z0,
  z0,
  z0,
  z0,
  z0,
  z0,
  z0,
  z0,
  z0,
  z0,
  z0,
  z0,
  z0,
  z0,
  z0,
  z0,
  z0,
  z0,
  z0,
  z0,
  z0,
  z0,
  z0,
  z0,
  z0,
  z0]
noncomputable def tab : List NInfo := (unionT tabS (unionT tab0 tab1))
noncomputable def crcs : List (List Value × Value) := [(z0w8, cn 4112)]
noncomputable abbrev base (a0 : Int) (a1 : Int) (x0 : Nat) (x1 : Nat) : List Value := [.int .i64 a0, .int .i64 a1, .int .i64 (.ofNat x0), .int .i64 (.ofNat x1)]
noncomputable abbrev G (a0 : Int) (a1 : Int) (x0 : Nat) (x1 : Nat) : Sym := symL (mkVals ds (base a0 a1 x0 x1))
set_option maxRecDepth 100000 in
theorem refs_ok : refsAll ds 4 = true := by kernel_rfl
set_option maxRecDepth 100000 in
theorem nam_ok : namDs ds = true := by kernel_rfl
set_option maxRecDepth 100000 in
theorem len_ok : Nat.ble tab.length 4096 = true := by kernel_rfl
set_option maxRecDepth 100000 in
theorem crcs_ok : crcsB ds 4 crcs = true := by kernel_rfl
set_option maxRecDepth 100000 in
theorem sym_ok : symTab (ksOf ds [some .i64, some .i64, some .i64, some .i64]) ds 4 tabS 0 = true := by kernel_rfl
theorem gb0 (a0 : Int) (a1 : Int) (x0 : Nat) (x1 : Nat) : G a0 a1 x0 x1 (4096 - 4096) = .int .i64 a0 := by
  show symL (mkVals ds (base a0 a1 x0 x1)) 0 = _
  rw [symL_low ds (base a0 a1 x0 x1) 0 (by simp)]
  rfl
theorem gb1 (a0 : Int) (a1 : Int) (x0 : Nat) (x1 : Nat) : G a0 a1 x0 x1 (4097 - 4096) = .int .i64 a1 := by
  show symL (mkVals ds (base a0 a1 x0 x1)) 1 = _
  rw [symL_low ds (base a0 a1 x0 x1) 1 (by simp)]
  rfl
theorem gb2 (a0 : Int) (a1 : Int) (x0 : Nat) (x1 : Nat) : G a0 a1 x0 x1 (4098 - 4096) = .int .i64 (.ofNat x0) := by
  show symL (mkVals ds (base a0 a1 x0 x1)) 2 = _
  rw [symL_low ds (base a0 a1 x0 x1) 2 (by simp)]
  rfl
theorem gb3 (a0 : Int) (a1 : Int) (x0 : Nat) (x1 : Nat) : G a0 a1 x0 x1 (4099 - 4096) = .int .i64 (.ofNat x1) := by
  show symL (mkVals ds (base a0 a1 x0 x1)) 3 = _
  rw [symL_low ds (base a0 a1 x0 x1) 3 (by simp)]
  rfl
set_option maxRecDepth 100000 in
theorem tab0_all (a0 : Int) (a1 : Int) (x1 : Nat) : allB 10 (fun i0 => tabB (G a0 a1 (0 + i0) x1) tab0 0) = true := by kernel_rfl
theorem tab0_ok (a0 : Int) (a1 : Int) (x0 : Nat) (x1 : Nat) (h0 : 0 ≤ x0 ∧ x0 < 10) (h1 : 1 ≤ x1 ∧ x1 < 600) : TabOk (G a0 a1 x0 x1) tab0 := by
  have h := (allB_spec (tab0_all a0 a1 x1) (x0 - 0) (by omega))
  rw [show 0 + (x0 - 0) = x0 by omega] at h
  exact tabB_part h
set_option maxRecDepth 100000 in
theorem tab1_all1 (a0 : Int) (a1 : Int) (x0 : Nat) : allB 200 (fun i1 => tabB (G a0 a1 x0 (1 + i1)) tab1 0) = true := by kernel_rfl
set_option maxRecDepth 100000 in
theorem tab1_all201 (a0 : Int) (a1 : Int) (x0 : Nat) : allB 200 (fun i1 => tabB (G a0 a1 x0 (201 + i1)) tab1 0) = true := by kernel_rfl
set_option maxRecDepth 100000 in
theorem tab1_all401 (a0 : Int) (a1 : Int) (x0 : Nat) : allB 199 (fun i1 => tabB (G a0 a1 x0 (401 + i1)) tab1 0) = true := by kernel_rfl
theorem tab1_ok (a0 : Int) (a1 : Int) (x0 : Nat) (x1 : Nat) (h0 : 0 ≤ x0 ∧ x0 < 10) (h1 : 1 ≤ x1 ∧ x1 < 600) : TabOk (G a0 a1 x0 x1) tab1 := by
  by_cases hc1 : x1 < 201
  · have h := (allB_spec (tab1_all1 a0 a1 x0) (x1 - 1) (by omega))
    rw [show 1 + (x1 - 1) = x1 by omega] at h
    exact tabB_part h
  by_cases hc201 : x1 < 401
  · have h := (allB_spec (tab1_all201 a0 a1 x0) (x1 - 201) (by omega))
    rw [show 201 + (x1 - 201) = x1 by omega] at h
    exact tabB_part h
  by_cases hc401 : x1 < 600
  · have h := (allB_spec (tab1_all401 a0 a1 x0) (x1 - 401) (by omega))
    rw [show 401 + (x1 - 401) = x1 by omega] at h
    exact tabB_part h
  · omega
theorem kinv (a0 : Int) (a1 : Int) (x0 : Nat) (x1 : Nat) (h0 : 0 ≤ x0 ∧ x0 < 10) (h1 : 1 ≤ x1 ∧ x1 < 600) (w0 : -9223372036854775808 ≤ a0 ∧ a0 ≤ 9223372036854775807) (w1 : -9223372036854775808 ≤ a1 ∧ a1 ≤ 9223372036854775807) : KInv (symL (base a0 a1 x0 x1)) [some .i64, some .i64, some .i64, some .i64] := by
  intro i k hi
  match i, hi with
  | 0, hi => cases hi; exact ⟨a0, rfl, by rw [inK_iff]; exact w0⟩
  | 1, hi => cases hi; exact ⟨a1, rfl, by rw [inK_iff]; exact w1⟩
  | 2, hi => cases hi; exact ⟨.ofNat x0, rfl, by rw [inK_iff]; show (-9223372036854775808 : Int) ≤ (x0 : Int) ∧ (x0 : Int) ≤ 9223372036854775807; omega⟩
  | 3, hi => cases hi; exact ⟨.ofNat x1, rfl, by rw [inK_iff]; show (-9223372036854775808 : Int) ≤ (x1 : Int) ∧ (x1 : Int) ≤ 9223372036854775807; omega⟩
  | n + 4, hi => cases hi
theorem named_ok (a0 : Int) (a1 : Int) (x0 : Nat) (x1 : Nat) (i : Nat) : named (G a0 a1 x0 x1 i) := symL_named' (mkVals_named (by intro v hv; simp only [base, List.mem_cons, List.not_mem_nil, or_false] at hv; rcases hv with rfl | rfl | rfl | rfl <;> trivial) nam_ok) i
theorem names_ok (a0 : Int) (a1 : Int) (x0 : Nat) (x1 : Nat) (h0 : 0 ≤ x0 ∧ x0 < 10) (h1 : 1 ≤ x1 ∧ x1 < 600) (w0 : -9223372036854775808 ≤ a0 ∧ a0 ≤ 9223372036854775807) (w1 : -9223372036854775808 ≤ a1 ∧ a1 ≤ 9223372036854775807) : NamesOk (G a0 a1 x0 x1) (Names.ofL tab) := namesOk_parts (named_ok a0 a1 x0 x1) len_ok (TabOk.union (symTab_part (l := base a0 a1 x0 x1) rfl (kinv a0 a1 x0 x1 h0 h1 w0 w1) refs_ok sym_ok) (TabOk.union (tab0_ok a0 a1 x0 x1 h0 h1 ) (tab1_ok a0 a1 x0 x1 h0 h1 )))
theorem crc_ok (a0 : Int) (a1 : Int) (x0 : Nat) (x1 : Nat) : CrcOk (G a0 a1 x0 x1) crcs := crcsB_ok (l := base a0 a1 x0 x1) refs_ok crcs_ok
noncomputable def pargs0 : List Value := [cn 4098]
noncomputable def pres0 : Value := cn 4101
noncomputable def pargs1 : List Value := [cn 4098]
noncomputable def pres1 : Value := cn 4101
end Go.Proofs.YtemmgompegkgkaaGreatDoor.toplasts.d1w1f
namespace Go.Proofs.YtemmgompegkgkaaGreatDoor.toplasts.d1w2f
open Go Vai
set_option linter.unusedVariables false
set_option linter.unusedSimpArgs false
noncomputable def ds : List NDef := [.idx .u8 (cn 4098) 0 [q0, q1, q2, q3, q4, q5, q6, q7, q8, q9],
  .str [cn 4099],
  .str [bn 49, bn 48, bn 46, bn 48, bn 46, bn 48, bn 46, cn 4099],
  .str [bn 49, bn 48, bn 46, bn 48, bn 46, bn 48, bn 46, cn 4099, bn 32, bn 104, bn 10],
  .str [bn 49, bn 48, bn 46, bn 48, bn 46, bn 48, bn 46, cn 4099, bn 32, bn 104],
  .ent 34 (cn 4099) (bn 0),
  .str [bn 48, bn 46, bn 48, bn 46, cn 4099],
  .str [bn 48, bn 46, cn 4099],
  .ent 1 (cn 4099) (bn 48),
  .ent 39 (cn 4107) (bn 0),
  .str [bn 10, bn 0, bn 0, cn 4107],
  .str [bn 0, bn 0, bn 0, bn 0, bn 0, bn 0, bn 0, bn 0, bn 0, bn 0, bn 255, bn 255, bn 10, bn 0, bn 0, cn 4107],
  .crc z0w7,
  .ent 39 (cn 4111) (bn 0),
  .ent 9 (cn 4112) (jn 0),
  .ent 36 (cn 4113) (bn 0),
  .ent 9 (cn 4112) (jn 8),
  .ent 36 (cn 4115) (bn 0),
  .ent 9 (cn 4112) (jn 16),
  .ent 36 (cn 4117) (bn 0),
  .ent 9 (cn 4112) (jn 24),
  .ent 36 (cn 4119) (bn 0),
  .ent 39 (cn 4114) (bn 0),
  .ent 8 (cn 4121) (jn 0),
  .ent 6 (.int .u64 (.ofNat 0)) (cn 4122),
  .ent 39 (cn 4116) (bn 0),
  .ent 8 (cn 4124) (jn 8),
  .ent 6 (cn 4123) (cn 4125),
  .ent 39 (cn 4118) (bn 0),
  .ent 8 (cn 4127) (jn 16),
  .ent 6 (cn 4126) (cn 4128),
  .ent 39 (cn 4120) (bn 0),
  .ent 8 (cn 4130) (jn 24),
  .ent 6 (cn 4129) (cn 4131),
  .crc z0w13,
  .ent 39 (cn 4133) (bn 0),
  .ent 9 (cn 4134) (jn 0),
  .ent 36 (cn 4135) (bn 0),
  .ent 9 (cn 4134) (jn 8),
  .ent 36 (cn 4137) (bn 0),
  .ent 9 (cn 4134) (jn 16),
  .ent 36 (cn 4139) (bn 0),
  .ent 9 (cn 4134) (jn 24),
  .ent 36 (cn 4141) (bn 0)]
noncomputable def tabS : List NInfo := [z0,
  z0,
  z0,
  ⟨none, none, [⟨34, cn 4099, bn 0, cn 4104⟩, ⟨1, cn 4099, bn 48, cn 4107⟩]⟩,
  ⟨none, some [cn 4099], []⟩,
  ⟨none, some [bn 49, bn 48, bn 46, bn 48, bn 46, bn 48, bn 46, cn 4099], []⟩,
  ⟨none, some [bn 49, bn 48, bn 46, bn 48, bn 46, bn 48, bn 46, cn 4099, bn 32, bn 104, bn 10], []⟩,
  ⟨none, some [bn 49, bn 48, bn 46, bn 48, bn 46, bn 48, bn 46, cn 4099, bn 32, bn 104], []⟩,
  z0,
  ⟨none, some [bn 48, bn 46, bn 48, bn 46, cn 4099], []⟩,
  ⟨none, some [bn 48, bn 46, cn 4099], []⟩,
  ⟨none, none, [⟨39, cn 4107, bn 0, cn 4108⟩]⟩,
  z0,
  ⟨none, some [bn 10, bn 0, bn 0, cn 4107], []⟩,
  ⟨none, some [bn 0, bn 0, bn 0, bn 0, bn 0, bn 0, bn 0, bn 0, bn 0, bn 0, bn 255, bn 255, bn 10, bn 0, bn 0, cn 4107], []⟩,
  ⟨some (.u32, (.ofNat 0), (.ofNat 4294967295)), none, [⟨39, cn 4111, bn 0, cn 4112⟩]⟩,
  ⟨some (.u64, (.ofNat 0), (.ofNat 18446744073709551615)), none, [⟨9, cn 4112, jn 0, cn 4113⟩, ⟨9, cn 4112, jn 8, cn 4115⟩, ⟨9, cn 4112, jn 16, cn 4117⟩, ⟨9, cn 4112, jn 24, cn 4119⟩]⟩,
  ⟨some (.u64, (.ofNat 0), (.ofNat 18446744073709551615)), none, [⟨36, cn 4113, bn 0, cn 4114⟩]⟩,
  ⟨some (.u8, (.ofNat 0), (.ofNat 255)), none, [⟨39, cn 4114, bn 0, cn 4121⟩]⟩,
  ⟨some (.u64, (.ofNat 0), (.ofNat 18446744073709551615)), none, [⟨36, cn 4115, bn 0, cn 4116⟩]⟩,
  ⟨some (.u8, (.ofNat 0), (.ofNat 255)), none, [⟨39, cn 4116, bn 0, cn 4124⟩]⟩,
  ⟨some (.u64, (.ofNat 0), (.ofNat 18446744073709551615)), none, [⟨36, cn 4117, bn 0, cn 4118⟩]⟩,
  ⟨some (.u8, (.ofNat 0), (.ofNat 255)), none, [⟨39, cn 4118, bn 0, cn 4127⟩]⟩,
  ⟨some (.u64, (.ofNat 0), (.ofNat 18446744073709551615)), none, [⟨36, cn 4119, bn 0, cn 4120⟩]⟩,
  ⟨some (.u8, (.ofNat 0), (.ofNat 255)), none, [⟨39, cn 4120, bn 0, cn 4130⟩]⟩,
  ⟨some (.u64, (.ofNat 0), (.ofNat 18446744073709551615)), none, [⟨8, cn 4121, jn 0, cn 4122⟩]⟩,
  ⟨some (.u64, (.ofNat 0), (.ofNat 18446744073709551615)), none, [⟨6, .int .u64 (.ofNat 0), cn 4122, cn 4123⟩]⟩,
  ⟨some (.u64, (.ofNat 0), (.ofNat 18446744073709551615)), none, [⟨6, cn 4123, cn 4125, cn 4126⟩]⟩,
  ⟨some (.u64, (.ofNat 0), (.ofNat 18446744073709551615)), none, [⟨8, cn 4124, jn 8, cn 4125⟩]⟩,
  ⟨some (.u64, (.ofNat 0), (.ofNat 18446744073709551615)), none, []⟩,
  ⟨some (.u64, (.ofNat 0), (.ofNat 18446744073709551615)), none, [⟨6, cn 4126, cn 4128, cn 4129⟩]⟩,
  ⟨some (.u64, (.ofNat 0), (.ofNat 18446744073709551615)), none, [⟨8, cn 4127, jn 16, cn 4128⟩]⟩,
  ⟨some (.u64, (.ofNat 0), (.ofNat 18446744073709551615)), none, []⟩,
  ⟨some (.u64, (.ofNat 0), (.ofNat 18446744073709551615)), none, [⟨6, cn 4129, cn 4131, cn 4132⟩]⟩,
  ⟨some (.u64, (.ofNat 0), (.ofNat 18446744073709551615)), none, [⟨8, cn 4130, jn 24, cn 4131⟩]⟩,
  ⟨some (.u64, (.ofNat 0), (.ofNat 18446744073709551615)), none, []⟩,
  ⟨some (.u64, (.ofNat 0), (.ofNat 18446744073709551615)), none, []⟩,
  ⟨some (.u32, (.ofNat 0), (.ofNat 4294967295)), none, [⟨39, cn 4133, bn 0, cn 4134⟩]⟩,
  ⟨some (.u64, (.ofNat 0), (.ofNat 18446744073709551615)), none, [⟨9, cn 4134, jn 0, cn 4135⟩, ⟨9, cn 4134, jn 8, cn 4137⟩, ⟨9, cn 4134, jn 16, cn 4139⟩, ⟨9, cn 4134, jn 24, cn 4141⟩]⟩,
  ⟨some (.u64, (.ofNat 0), (.ofNat 18446744073709551615)), none, [⟨36, cn 4135, bn 0, cn 4136⟩]⟩,
  ⟨some (.u8, (.ofNat 0), (.ofNat 255)), none, []⟩,
  ⟨some (.u64, (.ofNat 0), (.ofNat 18446744073709551615)), none, [⟨36, cn 4137, bn 0, cn 4138⟩]⟩,
  ⟨some (.u8, (.ofNat 0), (.ofNat 255)), none, []⟩,
  ⟨some (.u64, (.ofNat 0), (.ofNat 18446744073709551615)), none, [⟨36, cn 4139, bn 0, cn 4140⟩]⟩,
  ⟨some (.u8, (.ofNat 0), (.ofNat 255)), none, []⟩,
  ⟨some (.u64, (.ofNat 0), (.ofNat 18446744073709551615)), none, [⟨36, cn 4141, bn 0, cn 4142⟩]⟩,
  ⟨some (.u8, (.ofNat 0), (.ofNat 255)), none, []⟩]
noncomputable def tab0 : List NInfo := [z0,
  z0,
  ⟨some (.i64, (.ofNat 0), (.ofNat 9)), none, []⟩,
  ⟨some (.u8, (.ofNat 48), (.ofNat 57)), none, []⟩,
  z0,
  z0,
  z0,
  z0,
  ⟨some (.i32, (.ofNat 48), (.ofNat 57)), none, []⟩,
  z0,
  z0,
  ⟨some (.u8, (.ofNat 0), (.ofNat 9)), none, []⟩,
  ⟨some (.u64, (.ofNat 0), (.ofNat 9)), none, [⟨0, .int .u64 (.ofNat 0), cn 4108, cn 4108⟩, ⟨35, cn 4108, bn 0, cn 4098⟩, ⟨36, cn 4108, bn 0, cn 4107⟩]⟩,
  z0,
  z0,
  z0,
  z0,
  z0,
  z0,
  z0,
  z0,
  z0,
  z0,
  z0,
  z0,
  z0,
  z0,
  z0,
  z0,
  z0,
  z0,
  z0,
  z0,
  z0,
  z0,
  z0,
  ⟨none, none, [⟨12, cn 4132, cn 4112, .bool false⟩]⟩,
  z0,
  z0,
  z0,
  z0,
  z0,
  z0,
  z0,
  z0,
  z0,
  z0]
noncomputable def tab : List NInfo := (unionT tabS tab0)
noncomputable def crcs : List (List Value × Value) := [(z0w7, cn 4111),
  (z0w13, cn 4133)]
noncomputable abbrev base (a0 : Int) (a1 : Int) (x0 : Nat) : List Value := [.int .i64 a0, .int .i64 a1, .int .i64 (.ofNat x0)]
noncomputable abbrev G (a0 : Int) (a1 : Int) (x0 : Nat) : Sym := symL (mkVals ds (base a0 a1 x0))
set_option maxRecDepth 100000 in
theorem refs_ok : refsAll ds 3 = true := by kernel_rfl
set_option maxRecDepth 100000 in
theorem nam_ok : namDs ds = true := by kernel_rfl
set_option maxRecDepth 100000 in
theorem len_ok : Nat.ble tab.length 4096 = true := by kernel_rfl
set_option maxRecDepth 100000 in
theorem crcs_ok : crcsB ds 3 crcs = true := by kernel_rfl
set_option maxRecDepth 100000 in
theorem sym_ok : symTab (ksOf ds [some .i64, some .i64, some .i64]) ds 3 tabS 0 = true := by kernel_rfl
theorem gb0 (a0 : Int) (a1 : Int) (x0 : Nat) : G a0 a1 x0 (4096 - 4096) = .int .i64 a0 := by
  show symL (mkVals ds (base a0 a1 x0)) 0 = _
  rw [symL_low ds (base a0 a1 x0) 0 (by simp)]
  rfl
theorem gb1 (a0 : Int) (a1 : Int) (x0 : Nat) : G a0 a1 x0 (4097 - 4096) = .int .i64 a1 := by
  show symL (mkVals ds (base a0 a1 x0)) 1 = _
  rw [symL_low ds (base a0 a1 x0) 1 (by simp)]
  rfl
theorem gb2 (a0 : Int) (a1 : Int) (x0 : Nat) : G a0 a1 x0 (4098 - 4096) = .int .i64 (.ofNat x0) := by
  show symL (mkVals ds (base a0 a1 x0)) 2 = _
  rw [symL_low ds (base a0 a1 x0) 2 (by simp)]
  rfl
set_option maxRecDepth 100000 in
theorem tab0_all (a0 : Int) (a1 : Int) : allB 10 (fun i0 => tabB (G a0 a1 (0 + i0)) tab0 0) = true := by kernel_rfl
theorem tab0_ok (a0 : Int) (a1 : Int) (x0 : Nat) (h0 : 0 ≤ x0 ∧ x0 < 10) : TabOk (G a0 a1 x0) tab0 := by
  have h := (allB_spec (tab0_all a0 a1 ) (x0 - 0) (by omega))
  rw [show 0 + (x0 - 0) = x0 by omega] at h
  exact tabB_part h
theorem kinv (a0 : Int) (a1 : Int) (x0 : Nat) (h0 : 0 ≤ x0 ∧ x0 < 10) (w0 : -9223372036854775808 ≤ a0 ∧ a0 ≤ 9223372036854775807) (w1 : -9223372036854775808 ≤ a1 ∧ a1 ≤ 9223372036854775807) : KInv (symL (base a0 a1 x0)) [some .i64, some .i64, some .i64] := by
  intro i k hi
  match i, hi with
  | 0, hi => cases hi; exact ⟨a0, rfl, by rw [inK_iff]; exact w0⟩
  | 1, hi => cases hi; exact ⟨a1, rfl, by rw [inK_iff]; exact w1⟩
  | 2, hi => cases hi; exact ⟨.ofNat x0, rfl, by rw [inK_iff]; show (-9223372036854775808 : Int) ≤ (x0 : Int) ∧ (x0 : Int) ≤ 9223372036854775807; omega⟩
  | n + 3, hi => cases hi
theorem named_ok (a0 : Int) (a1 : Int) (x0 : Nat) (i : Nat) : named (G a0 a1 x0 i) := symL_named' (mkVals_named (by intro v hv; simp only [base, List.mem_cons, List.not_mem_nil, or_false] at hv; rcases hv with rfl | rfl | rfl <;> trivial) nam_ok) i
theorem names_ok (a0 : Int) (a1 : Int) (x0 : Nat) (h0 : 0 ≤ x0 ∧ x0 < 10) (w0 : -9223372036854775808 ≤ a0 ∧ a0 ≤ 9223372036854775807) (w1 : -9223372036854775808 ≤ a1 ∧ a1 ≤ 9223372036854775807) : NamesOk (G a0 a1 x0) (Names.ofL tab) := namesOk_parts (named_ok a0 a1 x0) len_ok (TabOk.union (symTab_part (l := base a0 a1 x0) rfl (kinv a0 a1 x0 h0 w0 w1) refs_ok sym_ok) (tab0_ok a0 a1 x0 h0 ))
theorem crc_ok (a0 : Int) (a1 : Int) (x0 : Nat) : CrcOk (G a0 a1 x0) crcs := crcsB_ok (l := base a0 a1 x0) refs_ok crcs_ok
noncomputable def pargs0 : List Value := [cn 4098]
noncomputable def pres0 : Value := cn 4100
noncomputable def pargs1 : List Value := [cn 4098]
noncomputable def pres1 : Value := cn 4100
end Go.Proofs.YtemmgompegkgkaaGreatDoor.toplasts.d1w2f
namespace Go.Proofs.YtemmgompegkgkaaGreatDoor.toplasts.d1w3f
open Go Vai
set_option linter.unusedVariables false
set_option linter.unusedSimpArgs false
noncomputable def ds : List NDef := [.idx .u8 (cn 4098) 0 [q0, q1, q2, q3, q4, q5, q6, q7, q8, q9],
  .str [cn 4100],
  .str [bn 49, bn 48, bn 46, bn 48, bn 46, bn 48, bn 46, cn 4100],
  .str [bn 49, bn 48, bn 46, bn 48, bn 46, bn 48, bn 46, cn 4100, bn 32, bn 104, bn 10],
  .str [bn 49, bn 48, bn 46, bn 48, bn 46, bn 48, bn 46, cn 4100, bn 32, bn 104],
  .ent 34 (cn 4100) (bn 0),
  .str [bn 48, bn 46, bn 48, bn 46, cn 4100],
  .str [bn 48, bn 46, cn 4100],
  .ent 1 (cn 4100) (bn 48),
  .ent 39 (cn 4108) (bn 0),
  .str [bn 10, bn 0, bn 0, cn 4108],
  .str [bn 0, bn 0, bn 0, bn 0, bn 0, bn 0, bn 0, bn 0, bn 0, bn 0, bn 255, bn 255, bn 10, bn 0, bn 0, cn 4108],
  .crc z0w8,
  .ent 39 (cn 4112) (bn 0),
  .ent 9 (cn 4113) (jn 0),
  .ent 36 (cn 4114) (bn 0),
  .ent 9 (cn 4113) (jn 8),
  .ent 36 (cn 4116) (bn 0),
  .ent 9 (cn 4113) (jn 16),
  .ent 36 (cn 4118) (bn 0),
  .ent 9 (cn 4113) (jn 24),
  .ent 36 (cn 4120) (bn 0),
  .ent 39 (cn 4115) (bn 0),
  .ent 8 (cn 4122) (jn 0),
  .ent 6 (.int .u64 (.ofNat 0)) (cn 4123),
  .ent 39 (cn 4117) (bn 0),
  .ent 8 (cn 4125) (jn 8),
  .ent 6 (cn 4124) (cn 4126),
  .ent 39 (cn 4119) (bn 0),
  .ent 8 (cn 4128) (jn 16),
  .ent 6 (cn 4127) (cn 4129),
  .ent 39 (cn 4121) (bn 0),
  .ent 8 (cn 4131) (jn 24),
  .ent 6 (cn 4130) (cn 4132),
  .ent 0 (cn 4099) (jn 600),
  .ent 39 (cn 4134) (bn 0),
  .ent 36 (cn 4135) (bn 0),
  .ent 9 (cn 4135) (jn 8),
  .ent 36 (cn 4137) (bn 0),
  .crc z0w14,
  .ent 39 (cn 4139) (bn 0),
  .ent 9 (cn 4140) (jn 0),
  .ent 36 (cn 4141) (bn 0),
  .ent 9 (cn 4140) (jn 8),
  .ent 36 (cn 4143) (bn 0),
  .ent 9 (cn 4140) (jn 16),
  .ent 36 (cn 4145) (bn 0),
  .ent 9 (cn 4140) (jn 24),
  .ent 36 (cn 4147) (bn 0)]
noncomputable def tabS : List NInfo := [z0,
  z0,
  z0,
  ⟨none, none, [⟨0, cn 4099, jn 600, cn 4134⟩]⟩,
  ⟨none, none, [⟨34, cn 4100, bn 0, cn 4105⟩, ⟨1, cn 4100, bn 48, cn 4108⟩]⟩,
  ⟨none, some [cn 4100], []⟩,
  ⟨none, some [bn 49, bn 48, bn 46, bn 48, bn 46, bn 48, bn 46, cn 4100], []⟩,
  ⟨none, some [bn 49, bn 48, bn 46, bn 48, bn 46, bn 48, bn 46, cn 4100, bn 32, bn 104, bn 10], []⟩,
  ⟨none, some [bn 49, bn 48, bn 46, bn 48, bn 46, bn 48, bn 46, cn 4100, bn 32, bn 104], []⟩,
  z0,
  ⟨none, some [bn 48, bn 46, bn 48, bn 46, cn 4100], []⟩,
  ⟨none, some [bn 48, bn 46, cn 4100], []⟩,
  ⟨none, none, [⟨39, cn 4108, bn 0, cn 4109⟩]⟩,
  z0,
  ⟨none, some [bn 10, bn 0, bn 0, cn 4108], []⟩,
  ⟨none, some [bn 0, bn 0, bn 0, bn 0, bn 0, bn 0, bn 0, bn 0, bn 0, bn 0, bn 255, bn 255, bn 10, bn 0, bn 0, cn 4108], []⟩,
  ⟨some (.u32, (.ofNat 0), (.ofNat 4294967295)), none, [⟨39, cn 4112, bn 0, cn 4113⟩]⟩,
  ⟨some (.u64, (.ofNat 0), (.ofNat 18446744073709551615)), none, [⟨9, cn 4113, jn 0, cn 4114⟩, ⟨9, cn 4113, jn 8, cn 4116⟩, ⟨9, cn 4113, jn 16, cn 4118⟩, ⟨9, cn 4113, jn 24, cn 4120⟩]⟩,
  ⟨some (.u64, (.ofNat 0), (.ofNat 18446744073709551615)), none, [⟨36, cn 4114, bn 0, cn 4115⟩]⟩,
  ⟨some (.u8, (.ofNat 0), (.ofNat 255)), none, [⟨39, cn 4115, bn 0, cn 4122⟩]⟩,
  ⟨some (.u64, (.ofNat 0), (.ofNat 18446744073709551615)), none, [⟨36, cn 4116, bn 0, cn 4117⟩]⟩,
  ⟨some (.u8, (.ofNat 0), (.ofNat 255)), none, [⟨39, cn 4117, bn 0, cn 4125⟩]⟩,
  ⟨some (.u64, (.ofNat 0), (.ofNat 18446744073709551615)), none, [⟨36, cn 4118, bn 0, cn 4119⟩]⟩,
  ⟨some (.u8, (.ofNat 0), (.ofNat 255)), none, [⟨39, cn 4119, bn 0, cn 4128⟩]⟩,
  ⟨some (.u64, (.ofNat 0), (.ofNat 18446744073709551615)), none, [⟨36, cn 4120, bn 0, cn 4121⟩]⟩,
  ⟨some (.u8, (.ofNat 0), (.ofNat 255)), none, [⟨39, cn 4121, bn 0, cn 4131⟩]⟩,
  ⟨some (.u64, (.ofNat 0), (.ofNat 18446744073709551615)), none, [⟨8, cn 4122, jn 0, cn 4123⟩]⟩,
  ⟨some (.u64, (.ofNat 0), (.ofNat 18446744073709551615)), none, [⟨6, .int .u64 (.ofNat 0), cn 4123, cn 4124⟩]⟩,
  ⟨some (.u64, (.ofNat 0), (.ofNat 18446744073709551615)), none, [⟨6, cn 4124, cn 4126, cn 4127⟩]⟩,
  ⟨some (.u64, (.ofNat 0), (.ofNat 18446744073709551615)), none, [⟨8, cn 4125, jn 8, cn 4126⟩]⟩,
  ⟨some (.u64, (.ofNat 0), (.ofNat 18446744073709551615)), none, []⟩,
  ⟨some (.u64, (.ofNat 0), (.ofNat 18446744073709551615)), none, [⟨6, cn 4127, cn 4129, cn 4130⟩]⟩,
  ⟨some (.u64, (.ofNat 0), (.ofNat 18446744073709551615)), none, [⟨8, cn 4128, jn 16, cn 4129⟩]⟩,
  ⟨some (.u64, (.ofNat 0), (.ofNat 18446744073709551615)), none, []⟩,
  ⟨some (.u64, (.ofNat 0), (.ofNat 18446744073709551615)), none, [⟨6, cn 4130, cn 4132, cn 4133⟩]⟩,
  ⟨some (.u64, (.ofNat 0), (.ofNat 18446744073709551615)), none, [⟨8, cn 4131, jn 24, cn 4132⟩]⟩,
  ⟨some (.u64, (.ofNat 0), (.ofNat 18446744073709551615)), none, []⟩,
  ⟨some (.u64, (.ofNat 0), (.ofNat 18446744073709551615)), none, []⟩,
  ⟨none, none, [⟨39, cn 4134, bn 0, cn 4135⟩]⟩,
  ⟨none, none, [⟨36, cn 4135, bn 0, cn 4136⟩, ⟨9, cn 4135, jn 8, cn 4137⟩]⟩,
  z0,
  ⟨none, none, [⟨36, cn 4137, bn 0, cn 4138⟩]⟩,
  z0,
  ⟨some (.u32, (.ofNat 0), (.ofNat 4294967295)), none, [⟨39, cn 4139, bn 0, cn 4140⟩]⟩,
  ⟨some (.u64, (.ofNat 0), (.ofNat 18446744073709551615)), none, [⟨9, cn 4140, jn 0, cn 4141⟩, ⟨9, cn 4140, jn 8, cn 4143⟩, ⟨9, cn 4140, jn 16, cn 4145⟩, ⟨9, cn 4140, jn 24, cn 4147⟩]⟩,
  ⟨some (.u64, (.ofNat 0), (.ofNat 18446744073709551615)), none, [⟨36, cn 4141, bn 0, cn 4142⟩]⟩,
  ⟨some (.u8, (.ofNat 0), (.ofNat 255)), none, []⟩,
  ⟨some (.u64, (.ofNat 0), (.ofNat 18446744073709551615)), none, [⟨36, cn 4143, bn 0, cn 4144⟩]⟩,
  ⟨some (.u8, (.ofNat 0), (.ofNat 255)), none, []⟩,
  ⟨some (.u64, (.ofNat 0), (.ofNat 18446744073709551615)), none, [⟨36, cn 4145, bn 0, cn 4146⟩]⟩,
  ⟨some (.u8, (.ofNat 0), (.ofNat 255)), none, []⟩,
  ⟨some (.u64, (.ofNat 0), (.ofNat 18446744073709551615)), none, [⟨36, cn 4147, bn 0, cn 4148⟩]⟩,
  ⟨some (.u8, (.ofNat 0), (.ofNat 255)), none, []⟩]
noncomputable def tab0 : List NInfo := [z0,
  z0,
  ⟨some (.i64, (.ofNat 0), (.ofNat 9)), none, []⟩,
  z0,
  ⟨some (.u8, (.ofNat 48), (.ofNat 57)), none, []⟩,
  z0,
  z0,
  z0,
  z0,
  ⟨some (.i32, (.ofNat 48), (.ofNat 57)), none, []⟩,
  z0,
  z0,
  ⟨some (.u8, (.ofNat 0), (.ofNat 9)), none, []⟩,
  ⟨some (.u64, (.ofNat 0), (.ofNat 9)), none, [⟨0, .int .u64 (.ofNat 0), cn 4109, cn 4109⟩, ⟨35, cn 4109, bn 0, cn 4098⟩, ⟨36, cn 4109, bn 0, cn 4108⟩]⟩,
  z0,
  z0,
  z0,
  z0,
  z0,
  z0,
  z0,
  z0,
  z0,
  z0,
  z0,
  z0,
  z0,
  z0,
  z0,
  z0,
  z0,
  z0,
  z0,
  z0,
  z0,
  z0,
  z0,
  ⟨none, none, [⟨12, cn 4133, cn 4113, .bool false⟩]⟩,
  z0,
  z0,
  z0,
  z0,
  z0,
  z0,
  z0,
  z0,
  z0,
  z0,
  z0,
  z0,
  z0,
  z0,
  z0]
noncomputable def tab1 : List NInfo := [z0,
  z0,
  z0,
  ⟨some (.i64, (.ofNat 601), (.ofNat 899)), none, [⟨0, jn 0, cn 4099, cn 4099⟩]⟩,
  z0,
  z0,
  z0,
  z0,
  z0,
  z0,
  z0,
  z0,
  z0,
  z0,
  z0,
  z0,
  z0,
  z0,
  z0,
  z0,
  z0,
  z0,
  z0,
  z0,
  z0,
  z0,
  z0,
  z0,
  z0,
  z0,
  z0,
  z0,
  z0,
  z0,
  z0,
  z0,
  z0,
  z0,
  ⟨some (.i64, (.ofNat 1201), (.ofNat 1499)), none, []⟩,
  ⟨some (.u64, (.ofNat 1201), (.ofNat 1499)), none, [⟨9, cn 4135, jn 0, cn 4135⟩, ⟨9, cn 4135, jn 16, .int .u64 (.ofNat 0)⟩, ⟨9, cn 4135, jn 24, .int .u64 (.ofNat 0)⟩, ⟨9, cn 4135, jn 32, .int .u64 (.ofNat 0)⟩, ⟨9, cn 4135, jn 40, .int .u64 (.ofNat 0)⟩, ⟨9, cn 4135, jn 48, .int .u64 (.ofNat 0)⟩, ⟨9, cn 4135, jn 56, .int .u64 (.ofNat 0)⟩]⟩,
  ⟨some (.u8, (.ofNat 0), (.ofNat 255)), none, []⟩,
  ⟨some (.u64, (.ofNat 4), (.ofNat 5)), none, []⟩,
  ⟨some (.u8, (.ofNat 4), (.ofNat 5)), none, []⟩,
  z0,
  z0,
  z0,
  z0,
  z0,
  z0,
  z0,
  z0,
  z0,
  z0]
noncomputable def tab : List NInfo := (unionT tabS (unionT tab0 tab1))
noncomputable def crcs : List (List Value × Value) := [(z0w8, cn 4112),
  (z0w14, cn 4139)]
noncomputable abbrev base (a0 : Int) (a1 : Int) (x0 : Nat) (x1 : Nat) : List Value := [.int .i64 a0, .int .i64 a1, .int .i64 (.ofNat x0), .int .i64 (.ofNat x1)]
noncomputable abbrev G (a0 : Int) (a1 : Int) (x0 : Nat) (x1 : Nat) : Sym := symL (mkVals ds (base a0 a1 x0 x1))
set_option maxRecDepth 100000 in
theorem refs_ok : refsAll ds 4 = true := by kernel_rfl
set_option maxRecDepth 100000 in
theorem nam_ok : namDs ds = true := by kernel_rfl
set_option maxRecDepth 100000 in
theorem len_ok : Nat.ble tab.length 4096 = true := by kernel_rfl
set_option maxRecDepth 100000 in
theorem crcs_ok : crcsB ds 4 crcs = true := by kernel_rfl
set_option maxRecDepth 100000 in
theorem sym_ok : symTab (ksOf ds [some .i64, some .i64, some .i64, some .i64]) ds 4 tabS 0 = true := by kernel_rfl
theorem gb0 (a0 : Int) (a1 : Int) (x0 : Nat) (x1 : Nat) : G a0 a1 x0 x1 (4096 - 4096) = .int .i64 a0 := by
  show symL (mkVals ds (base a0 a1 x0 x1)) 0 = _
  rw [symL_low ds (base a0 a1 x0 x1) 0 (by simp)]
  rfl
theorem gb1 (a0 : Int) (a1 : Int) (x0 : Nat) (x1 : Nat) : G a0 a1 x0 x1 (4097 - 4096) = .int .i64 a1 := by
  show symL (mkVals ds (base a0 a1 x0 x1)) 1 = _
  rw [symL_low ds (base a0 a1 x0 x1) 1 (by simp)]
  rfl
theorem gb2 (a0 : Int) (a1 : Int) (x0 : Nat) (x1 : Nat) : G a0 a1 x0 x1 (4098 - 4096) = .int .i64 (.ofNat x0) := by
  show symL (mkVals ds (base a0 a1 x0 x1)) 2 = _
  rw [symL_low ds (base a0 a1 x0 x1) 2 (by simp)]
  rfl
theorem gb3 (a0 : Int) (a1 : Int) (x0 : Nat) (x1 : Nat) : G a0 a1 x0 x1 (4099 - 4096) = .int .i64 (.ofNat x1) := by
  show symL (mkVals ds (base a0 a1 x0 x1)) 3 = _
  rw [symL_low ds (base a0 a1 x0 x1) 3 (by simp)]
  rfl
set_option maxRecDepth 100000 in
theorem tab0_all (a0 : Int) (a1 : Int) (x1 : Nat) : allB 10 (fun i0 => tabB (G a0 a1 (0 + i0) x1) tab0 0) = true := by kernel_rfl
theorem tab0_ok (a0 : Int) (a1 : Int) (x0 : Nat) (x1 : Nat) (h0 : 0 ≤ x0 ∧ x0 < 10) (h1 : 601 ≤ x1 ∧ x1 < 900) : TabOk (G a0 a1 x0 x1) tab0 := by
  have h := (allB_spec (tab0_all a0 a1 x1) (x0 - 0) (by omega))
  rw [show 0 + (x0 - 0) = x0 by omega] at h
  exact tabB_part h
set_option maxRecDepth 100000 in
theorem tab1_all601 (a0 : Int) (a1 : Int) (x0 : Nat) : allB 200 (fun i1 => tabB (G a0 a1 x0 (601 + i1)) tab1 0) = true := by kernel_rfl
set_option maxRecDepth 100000 in
theorem tab1_all801 (a0 : Int) (a1 : Int) (x0 : Nat) : allB 99 (fun i1 => tabB (G a0 a1 x0 (801 + i1)) tab1 0) = true := by kernel_rfl
theorem tab1_ok (a0 : Int) (a1 : Int) (x0 : Nat) (x1 : Nat) (h0 : 0 ≤ x0 ∧ x0 < 10) (h1 : 601 ≤ x1 ∧ x1 < 900) : TabOk (G a0 a1 x0 x1) tab1 := by
  by_cases hc601 : x1 < 801
  · have h := (allB_spec (tab1_all601 a0 a1 x0) (x1 - 601) (by omega))
    rw [show 601 + (x1 - 601) = x1 by omega] at h
    exact tabB_part h
  by_cases hc801 : x1 < 900
  · have h := (allB_spec (tab1_all801 a0 a1 x0) (x1 - 801) (by omega))
    rw [show 801 + (x1 - 801) = x1 by omega] at h
    exact tabB_part h
  · omega
theorem kinv (a0 : Int) (a1 : Int) (x0 : Nat) (x1 : Nat) (h0 : 0 ≤ x0 ∧ x0 < 10) (h1 : 601 ≤ x1 ∧ x1 < 900) (w0 : -9223372036854775808 ≤ a0 ∧ a0 ≤ 9223372036854775807) (w1 : -9223372036854775808 ≤ a1 ∧ a1 ≤ 9223372036854775807) : KInv (symL (base a0 a1 x0 x1)) [some .i64, some .i64, some .i64, some .i64] := by
  intro i k hi
  match i, hi with
  | 0, hi => cases hi; exact ⟨a0, rfl, by rw [inK_iff]; exact w0⟩
  | 1, hi => cases hi; exact ⟨a1, rfl, by rw [inK_iff]; exact w1⟩
  | 2, hi => cases hi; exact ⟨.ofNat x0, rfl, by rw [inK_iff]; show (-9223372036854775808 : Int) ≤ (x0 : Int) ∧ (x0 : Int) ≤ 9223372036854775807; omega⟩
  | 3, hi => cases hi; exact ⟨.ofNat x1, rfl, by rw [inK_iff]; show (-9223372036854775808 : Int) ≤ (x1 : Int) ∧ (x1 : Int) ≤ 9223372036854775807; omega⟩
  | n + 4, hi => cases hi
theorem named_ok (a0 : Int) (a1 : Int) (x0 : Nat) (x1 : Nat) (i : Nat) : named (G a0 a1 x0 x1 i) := symL_named' (mkVals_named (by intro v hv; simp only [base, List.mem_cons, List.not_mem_nil, or_false] at hv; rcases hv with rfl | rfl | rfl | rfl <;> trivial) nam_ok) i
theorem names_ok (a0 : Int) (a1 : Int) (x0 : Nat) (x1 : Nat) (h0 : 0 ≤ x0 ∧ x0 < 10) (h1 : 601 ≤ x1 ∧ x1 < 900) (w0 : -9223372036854775808 ≤ a0 ∧ a0 ≤ 9223372036854775807) (w1 : -9223372036854775808 ≤ a1 ∧ a1 ≤ 9223372036854775807) : NamesOk (G a0 a1 x0 x1) (Names.ofL tab) := namesOk_parts (named_ok a0 a1 x0 x1) len_ok (TabOk.union (symTab_part (l := base a0 a1 x0 x1) rfl (kinv a0 a1 x0 x1 h0 h1 w0 w1) refs_ok sym_ok) (TabOk.union (tab0_ok a0 a1 x0 x1 h0 h1 ) (tab1_ok a0 a1 x0 x1 h0 h1 )))
theorem crc_ok (a0 : Int) (a1 : Int) (x0 : Nat) (x1 : Nat) : CrcOk (G a0 a1 x0 x1) crcs := crcsB_ok (l := base a0 a1 x0 x1) refs_ok crcs_ok
noncomputable def pargs0 : List Value := [cn 4098]
noncomputable def pres0 : Value := cn 4101
noncomputable def pargs1 : List Value := [cn 4098]
noncomputable def pres1 : Value := cn 4101
end Go.Proofs.YtemmgompegkgkaaGreatDoor.toplasts.d1w3f
namespace Go.Proofs.YtemmgompegkgkaaGreatDoor.toplasts.d2w0f
open Go Vai
set_option linter.unusedVariables false
set_option linter.unusedSimpArgs false
noncomputable def ds : List NDef := [.idx .u8 (cn 4098) 10 z0w1,
  .idx .u8 (cn 4098) 10 z0w2,
  .str [cn 4099, cn 4100],
  .str [bn 49, bn 48, bn 46, bn 48, bn 46, bn 48, bn 46, cn 4099, cn 4100],
  .str [bn 49, bn 48, bn 46, bn 48, bn 46, bn 48, bn 46, cn 4099, cn 4100, bn 32, bn 104, bn 10],
  .str [bn 49, bn 48, bn 46, bn 48, bn 46, bn 48, bn 46, cn 4099, cn 4100, bn 32, bn 104],
  .ent 34 (cn 4099) (bn 0),
  .ent 34 (cn 4100) (bn 0),
  .str [bn 48, bn 46, bn 48, bn 46, cn 4099, cn 4100],
  .str [bn 48, bn 46, cn 4099, cn 4100],
  .ent 1 (cn 4099) (bn 48),
  .ent 39 (cn 4109) (bn 0),
  .ent 1 (cn 4100) (bn 48),
  .ent 2 (cn 4110) (.int .u64 (.ofNat 10)),
  .ent 39 (cn 4111) (bn 0),
  .ent 0 (cn 4112) (cn 4113),
  .ent 36 (cn 4114) (bn 0),
  .str [bn 10, bn 0, bn 0, cn 4115],
  .str [bn 0, bn 0, bn 0, bn 0, bn 0, bn 0, bn 0, bn 0, bn 0, bn 0, bn 255, bn 255, bn 10, bn 0, bn 0, cn 4115],
  .crc z0w9,
  .ent 39 (cn 4118) (bn 0),
  .ent 9 (cn 4119) (jn 0),
  .ent 36 (cn 4120) (bn 0),
  .ent 9 (cn 4119) (jn 8),
  .ent 36 (cn 4122) (bn 0),
  .ent 9 (cn 4119) (jn 16),
  .ent 36 (cn 4124) (bn 0),
  .ent 9 (cn 4119) (jn 24),
  .ent 36 (cn 4126) (bn 0),
  .ent 39 (cn 4121) (bn 0),
  .ent 8 (cn 4128) (jn 0),
  .ent 6 (.int .u64 (.ofNat 0)) (cn 4129),
  .ent 39 (cn 4123) (bn 0),
  .ent 8 (cn 4131) (jn 8),
  .ent 6 (cn 4130) (cn 4132),
  .ent 39 (cn 4125) (bn 0),
  .ent 8 (cn 4134) (jn 16),
  .ent 6 (cn 4133) (cn 4135),
  .ent 39 (cn 4127) (bn 0),
  .ent 8 (cn 4137) (jn 24),
  .ent 6 (cn 4136) (cn 4138)]
noncomputable def tabS : List NInfo := [z0,
  z0,
  z0,
  ⟨none, none, [⟨34, cn 4099, bn 0, cn 4105⟩, ⟨1, cn 4099, bn 48, cn 4109⟩]⟩,
  ⟨none, none, [⟨34, cn 4100, bn 0, cn 4106⟩, ⟨1, cn 4100, bn 48, cn 4111⟩]⟩,
  ⟨none, some [cn 4099, cn 4100], []⟩,
  ⟨none, some [bn 49, bn 48, bn 46, bn 48, bn 46, bn 48, bn 46, cn 4099, cn 4100], []⟩,
  ⟨none, some [bn 49, bn 48, bn 46, bn 48, bn 46, bn 48, bn 46, cn 4099, cn 4100, bn 32, bn 104, bn 10], []⟩,
  ⟨none, some [bn 49, bn 48, bn 46, bn 48, bn 46, bn 48, bn 46, cn 4099, cn 4100, bn 32, bn 104], []⟩,
  z0,
  z0,
  ⟨none, some [bn 48, bn 46, bn 48, bn 46, cn 4099, cn 4100], []⟩,
  ⟨none, some [bn 48, bn 46, cn 4099, cn 4100], []⟩,
  ⟨none, none, [⟨39, cn 4109, bn 0, cn 4110⟩]⟩,
  ⟨none, none, [⟨2, cn 4110, .int .u64 (.ofNat 10), cn 4112⟩]⟩,
  ⟨none, none, [⟨39, cn 4111, bn 0, cn 4113⟩]⟩,
  ⟨none, none, [⟨0, cn 4112, cn 4113, cn 4114⟩]⟩,
  z0,
  ⟨none, none, [⟨36, cn 4114, bn 0, cn 4115⟩]⟩,
  z0,
  ⟨none, some [bn 10, bn 0, bn 0, cn 4115], []⟩,
  ⟨none, some [bn 0, bn 0, bn 0, bn 0, bn 0, bn 0, bn 0, bn 0, bn 0, bn 0, bn 255, bn 255, bn 10, bn 0, bn 0, cn 4115], []⟩,
  ⟨some (.u32, (.ofNat 0), (.ofNat 4294967295)), none, [⟨39, cn 4118, bn 0, cn 4119⟩]⟩,
  ⟨some (.u64, (.ofNat 0), (.ofNat 18446744073709551615)), none, [⟨9, cn 4119, jn 0, cn 4120⟩, ⟨9, cn 4119, jn 8, cn 4122⟩, ⟨9, cn 4119, jn 16, cn 4124⟩, ⟨9, cn 4119, jn 24, cn 4126⟩]⟩,
  ⟨some (.u64, (.ofNat 0), (.ofNat 18446744073709551615)), none, [⟨36, cn 4120, bn 0, cn 4121⟩]⟩,
  ⟨some (.u8, (.ofNat 0), (.ofNat 255)), none, [⟨39, cn 4121, bn 0, cn 4128⟩]⟩,
  ⟨some (.u64, (.ofNat 0), (.ofNat 18446744073709551615)), none, [⟨36, cn 4122, bn 0, cn 4123⟩]⟩,
  ⟨some (.u8, (.ofNat 0), (.ofNat 255)), none, [⟨39, cn 4123, bn 0, cn 4131⟩]⟩,
  ⟨some (.u64, (.ofNat 0), (.ofNat 18446744073709551615)), none, [⟨36, cn 4124, bn 0, cn 4125⟩]⟩,
  ⟨some (.u8, (.ofNat 0), (.ofNat 255)), none, [⟨39, cn 4125, bn 0, cn 4134⟩]⟩,
  ⟨some (.u64, (.ofNat 0), (.ofNat 18446744073709551615)), none, [⟨36, cn 4126, bn 0, cn 4127⟩]⟩,
  ⟨some (.u8, (.ofNat 0), (.ofNat 255)), none, [⟨39, cn 4127, bn 0, cn 4137⟩]⟩,
  ⟨some (.u64, (.ofNat 0), (.ofNat 18446744073709551615)), none, [⟨8, cn 4128, jn 0, cn 4129⟩]⟩,
  ⟨some (.u64, (.ofNat 0), (.ofNat 18446744073709551615)), none, [⟨6, .int .u64 (.ofNat 0), cn 4129, cn 4130⟩]⟩,
  ⟨some (.u64, (.ofNat 0), (.ofNat 18446744073709551615)), none, [⟨6, cn 4130, cn 4132, cn 4133⟩]⟩,
  ⟨some (.u64, (.ofNat 0), (.ofNat 18446744073709551615)), none, [⟨8, cn 4131, jn 8, cn 4132⟩]⟩,
  ⟨some (.u64, (.ofNat 0), (.ofNat 18446744073709551615)), none, []⟩,
  ⟨some (.u64, (.ofNat 0), (.ofNat 18446744073709551615)), none, [⟨6, cn 4133, cn 4135, cn 4136⟩]⟩,
  ⟨some (.u64, (.ofNat 0), (.ofNat 18446744073709551615)), none, [⟨8, cn 4134, jn 16, cn 4135⟩]⟩,
  ⟨some (.u64, (.ofNat 0), (.ofNat 18446744073709551615)), none, []⟩,
  ⟨some (.u64, (.ofNat 0), (.ofNat 18446744073709551615)), none, [⟨6, cn 4136, cn 4138, cn 4139⟩]⟩,
  ⟨some (.u64, (.ofNat 0), (.ofNat 18446744073709551615)), none, [⟨8, cn 4137, jn 24, cn 4138⟩]⟩,
  ⟨some (.u64, (.ofNat 0), (.ofNat 18446744073709551615)), none, []⟩,
  ⟨some (.u64, (.ofNat 0), (.ofNat 18446744073709551615)), none, []⟩]
noncomputable def tab0 : List NInfo := [z0,
  z0,
  ⟨some (.i64, (.ofNat 10), (.ofNat 99)), none, []⟩,
  ⟨some (.u8, (.ofNat 49), (.ofNat 57)), none, []⟩,
  ⟨some (.u8, (.ofNat 48), (.ofNat 57)), none, []⟩,
  z0,
  z0,
  z0,
  z0,
  ⟨some (.i32, (.ofNat 49), (.ofNat 57)), none, []⟩,
  ⟨some (.i32, (.ofNat 48), (.ofNat 57)), none, []⟩,
  z0,
  z0,
  ⟨some (.u8, (.ofNat 1), (.ofNat 9)), none, []⟩,
  ⟨some (.u64, (.ofNat 1), (.ofNat 9)), none, [⟨0, .int .u64 (.ofNat 0), cn 4110, cn 4110⟩]⟩,
  ⟨some (.u8, (.ofNat 0), (.ofNat 9)), none, []⟩,
  ⟨some (.u64, (.ofNat 10), (.ofNat 90)), none, []⟩,
  ⟨some (.u64, (.ofNat 0), (.ofNat 9)), none, []⟩,
  ⟨some (.u64, (.ofNat 10), (.ofNat 99)), none, [⟨13, cn 4114, cn 4112, .bool false⟩, ⟨35, cn 4114, bn 0, cn 4098⟩]⟩,
  ⟨some (.u8, (.ofNat 10), (.ofNat 99)), none, []⟩,
  z0,
  z0,
  z0,
  z0,
  z0,
  z0,
  z0,
  z0,
  z0,
  z0,
  z0,
  z0,
  z0,
  z0,
  z0,
  z0,
  z0,
  z0,
  z0,
  z0,
  z0,
  z0,
  z0,
  ⟨none, none, [⟨12, cn 4139, cn 4119, .bool false⟩]⟩]
noncomputable def tab : List NInfo := (unionT tabS tab0)
noncomputable def crcs : List (List Value × Value) := [(z0w9, cn 4118)]
noncomputable abbrev base (a0 : Int) (a1 : Int) (x0 : Nat) : List Value := [.int .i64 a0, .int .i64 a1, .int .i64 (.ofNat x0)]
noncomputable abbrev G (a0 : Int) (a1 : Int) (x0 : Nat) : Sym := symL (mkVals ds (base a0 a1 x0))
set_option maxRecDepth 100000 in
theorem refs_ok : refsAll ds 3 = true := by kernel_rfl
set_option maxRecDepth 100000 in
theorem nam_ok : namDs ds = true := by kernel_rfl
set_option maxRecDepth 100000 in
theorem len_ok : Nat.ble tab.length 4096 = true := by kernel_rfl
set_option maxRecDepth 100000 in
theorem crcs_ok : crcsB ds 3 crcs = true := by kernel_rfl
set_option maxRecDepth 100000 in
theorem sym_ok : symTab (ksOf ds [some .i64, some .i64, some .i64]) ds 3 tabS 0 = true := by kernel_rfl
theorem gb0 (a0 : Int) (a1 : Int) (x0 : Nat) : G a0 a1 x0 (4096 - 4096) = .int .i64 a0 := by
  show symL (mkVals ds (base a0 a1 x0)) 0 = _
  rw [symL_low ds (base a0 a1 x0) 0 (by simp)]
  rfl
theorem gb1 (a0 : Int) (a1 : Int) (x0 : Nat) : G a0 a1 x0 (4097 - 4096) = .int .i64 a1 := by
  show symL (mkVals ds (base a0 a1 x0)) 1 = _
  rw [symL_low ds (base a0 a1 x0) 1 (by simp)]
  rfl
theorem gb2 (a0 : Int) (a1 : Int) (x0 : Nat) : G a0 a1 x0 (4098 - 4096) = .int .i64 (.ofNat x0) := by
  show symL (mkVals ds (base a0 a1 x0)) 2 = _
  rw [symL_low ds (base a0 a1 x0) 2 (by simp)]
  rfl
set_option maxRecDepth 100000 in
theorem tab0_all (a0 : Int) (a1 : Int) : allB 90 (fun i0 => tabB (G a0 a1 (10 + i0)) tab0 0) = true := by kernel_rfl
theorem tab0_ok (a0 : Int) (a1 : Int) (x0 : Nat) (h0 : 10 ≤ x0 ∧ x0 < 100) : TabOk (G a0 a1 x0) tab0 := by
  have h := (allB_spec (tab0_all a0 a1 ) (x0 - 10) (by omega))
  rw [show 10 + (x0 - 10) = x0 by omega] at h
  exact tabB_part h
theorem kinv (a0 : Int) (a1 : Int) (x0 : Nat) (h0 : 10 ≤ x0 ∧ x0 < 100) (w0 : -9223372036854775808 ≤ a0 ∧ a0 ≤ 9223372036854775807) (w1 : -9223372036854775808 ≤ a1 ∧ a1 ≤ 9223372036854775807) : KInv (symL (base a0 a1 x0)) [some .i64, some .i64, some .i64] := by
  intro i k hi
  match i, hi with
  | 0, hi => cases hi; exact ⟨a0, rfl, by rw [inK_iff]; exact w0⟩
  | 1, hi => cases hi; exact ⟨a1, rfl, by rw [inK_iff]; exact w1⟩
  | 2, hi => cases hi; exact ⟨.ofNat x0, rfl, by rw [inK_iff]; show (-9223372036854775808 : Int) ≤ (x0 : Int) ∧ (x0 : Int) ≤ 9223372036854775807; omega⟩
  | n + 3, hi => cases hi
theorem named_ok (a0 : Int) (a1 : Int) (x0 : Nat) (i : Nat) : named (G a0 a1 x0 i) := symL_named' (mkVals_named (by intro v hv; simp only [base, List.mem_cons, List.not_mem_nil, or_false] at hv; rcases hv with rfl | rfl | rfl <;> trivial) nam_ok) i
theorem names_ok (a0 : Int) (a1 : Int) (x0 : Nat) (h0 : 10 ≤ x0 ∧ x0 < 100) (w0 : -9223372036854775808 ≤ a0 ∧ a0 ≤ 9223372036854775807) (w1 : -9223372036854775808 ≤ a1 ∧ a1 ≤ 9223372036854775807) : NamesOk (G a0 a1 x0) (Names.ofL tab) := namesOk_parts (named_ok a0 a1 x0) len_ok (TabOk.union (symTab_part (l := base a0 a1 x0) rfl (kinv a0 a1 x0 h0 w0 w1) refs_ok sym_ok) (tab0_ok a0 a1 x0 h0 ))
theorem crc_ok (a0 : Int) (a1 : Int) (x0 : Nat) : CrcOk (G a0 a1 x0) crcs := crcsB_ok (l := base a0 a1 x0) refs_ok crcs_ok
noncomputable def pargs0 : List Value := [cn 4098]
noncomputable def pres0 : Value := cn 4101
noncomputable def pargs1 : List Value := [cn 4098]
noncomputable def pres1 : Value := cn 4101
end Go.Proofs.YtemmgompegkgkaaGreatDoor.toplasts.d2w0f
namespace Go.Proofs.YtemmgompegkgkaaGreatDoor.toplasts.d2w1f
open Go Vai
set_option linter.unusedVariables false
set_option linter.unusedSimpArgs false
noncomputable def ds : List NDef := [.idx .u8 (cn 4098) 10 z0w1,
  .idx .u8 (cn 4098) 10 z0w2,
  .str [cn 4100, cn 4101],
  .str [bn 49, bn 48, bn 46, bn 48, bn 46, bn 48, bn 46, cn 4100, cn 4101],
  .str [bn 49, bn 48, bn 46, bn 48, bn 46, bn 48, bn 46, cn 4100, cn 4101, bn 32, bn 104, bn 10],
  .str [bn 49, bn 48, bn 46, bn 48, bn 46, bn 48, bn 46, cn 4100, cn 4101, bn 32, bn 104],
  .ent 34 (cn 4100) (bn 0),
  .ent 34 (cn 4101) (bn 0),
  .str [bn 48, bn 46, bn 48, bn 46, cn 4100, cn 4101],
  .str [bn 48, bn 46, cn 4100, cn 4101],
  .ent 1 (cn 4100) (bn 48),
  .ent 39 (cn 4110) (bn 0),
  .ent 1 (cn 4101) (bn 48),
  .ent 2 (cn 4111) (.int .u64 (.ofNat 10)),
  .ent 39 (cn 4112) (bn 0),
  .ent 0 (cn 4113) (cn 4114),
  .ent 36 (cn 4115) (bn 0),
  .str [bn 10, bn 0, bn 0, cn 4116],
  .str [bn 0, bn 0, bn 0, bn 0, bn 0, bn 0, bn 0, bn 0, bn 0, bn 0, bn 255, bn 255, bn 10, bn 0, bn 0, cn 4116],
  .crc z0w10,
  .ent 39 (cn 4119) (bn 0),
  .ent 9 (cn 4120) (jn 0),
  .ent 36 (cn 4121) (bn 0),
  .ent 9 (cn 4120) (jn 8),
  .ent 36 (cn 4123) (bn 0),
  .ent 9 (cn 4120) (jn 16),
  .ent 36 (cn 4125) (bn 0),
  .ent 9 (cn 4120) (jn 24),
  .ent 36 (cn 4127) (bn 0),
  .ent 39 (cn 4122) (bn 0),
  .ent 8 (cn 4129) (jn 0),
  .ent 6 (.int .u64 (.ofNat 0)) (cn 4130),
  .ent 39 (cn 4124) (bn 0),
  .ent 8 (cn 4132) (jn 8),
  .ent 6 (cn 4131) (cn 4133),
  .ent 39 (cn 4126) (bn 0),
  .ent 8 (cn 4135) (jn 16),
  .ent 6 (cn 4134) (cn 4136),
  .ent 39 (cn 4128) (bn 0),
  .ent 8 (cn 4138) (jn 24),
  .ent 6 (cn 4137) (cn 4139)]
noncomputable def tabS : List NInfo := [z0,
  z0,
  z0,
  z0,
  ⟨none, none, [⟨34, cn 4100, bn 0, cn 4106⟩, ⟨1, cn 4100, bn 48, cn 4110⟩]⟩,
  ⟨none, none, [⟨34, cn 4101, bn 0, cn 4107⟩, ⟨1, cn 4101, bn 48, cn 4112⟩]⟩,
  ⟨none, some [cn 4100, cn 4101], []⟩,
  ⟨none, some [bn 49, bn 48, bn 46, bn 48, bn 46, bn 48, bn 46, cn 4100, cn 4101], []⟩,
  ⟨none, some [bn 49, bn 48, bn 46, bn 48, bn 46, bn 48, bn 46, cn 4100, cn 4101, bn 32, bn 104, bn 10], []⟩,
  ⟨none, some [bn 49, bn 48, bn 46, bn 48, bn 46, bn 48, bn 46, cn 4100, cn 4101, bn 32, bn 104], []⟩,
  z0,
  z0,
  ⟨none, some [bn 48, bn 46, bn 48, bn 46, cn 4100, cn 4101], []⟩,
  ⟨none, some [bn 48, bn 46, cn 4100, cn 4101], []⟩,
  ⟨none, none, [⟨39, cn 4110, bn 0, cn 4111⟩]⟩,
  ⟨none, none, [⟨2, cn 4111, .int .u64 (.ofNat 10), cn 4113⟩]⟩,
  ⟨none, none, [⟨39, cn 4112, bn 0, cn 4114⟩]⟩,
  ⟨none, none, [⟨0, cn 4113, cn 4114, cn 4115⟩]⟩,
  z0,
  ⟨none, none, [⟨36, cn 4115, bn 0, cn 4116⟩]⟩,
  z0,
  ⟨none, some [bn 10, bn 0, bn 0, cn 4116], []⟩,
  ⟨none, some [bn 0, bn 0, bn 0, bn 0, bn 0, bn 0, bn 0, bn 0, bn 0, bn 0, bn 255, bn 255, bn 10, bn 0, bn 0, cn 4116], []⟩,
  ⟨some (.u32, (.ofNat 0), (.ofNat 4294967295)), none, [⟨39, cn 4119, bn 0, cn 4120⟩]⟩,
  ⟨some (.u64, (.ofNat 0), (.ofNat 18446744073709551615)), none, [⟨9, cn 4120, jn 0, cn 4121⟩, ⟨9, cn 4120, jn 8, cn 4123⟩, ⟨9, cn 4120, jn 16, cn 4125⟩, ⟨9, cn 4120, jn 24, cn 4127⟩]⟩,
  ⟨some (.u64, (.ofNat 0), (.ofNat 18446744073709551615)), none, [⟨36, cn 4121, bn 0, cn 4122⟩]⟩,
  ⟨some (.u8, (.ofNat 0), (.ofNat 255)), none, [⟨39, cn 4122, bn 0, cn 4129⟩]⟩,
  ⟨some (.u64, (.ofNat 0), (.ofNat 18446744073709551615)), none, [⟨36, cn 4123, bn 0, cn 4124⟩]⟩,
  ⟨some (.u8, (.ofNat 0), (.ofNat 255)), none, [⟨39, cn 4124, bn 0, cn 4132⟩]⟩,
  ⟨some (.u64, (.ofNat 0), (.ofNat 18446744073709551615)), none, [⟨36, cn 4125, bn 0, cn 4126⟩]⟩,
  ⟨some (.u8, (.ofNat 0), (.ofNat 255)), none, [⟨39, cn 4126, bn 0, cn 4135⟩]⟩,
  ⟨some (.u64, (.ofNat 0), (.ofNat 18446744073709551615)), none, [⟨36, cn 4127, bn 0, cn 4128⟩]⟩,
  ⟨some (.u8, (.ofNat 0), (.ofNat 255)), none, [⟨39, cn 4128, bn 0, cn 4138⟩]⟩,
  ⟨some (.u64, (.ofNat 0), (.ofNat 18446744073709551615)), none, [⟨8, cn 4129, jn 0, cn 4130⟩]⟩,
  ⟨some (.u64, (.ofNat 0), (.ofNat 18446744073709551615)), none, [⟨6, .int .u64 (.ofNat 0), cn 4130, cn 4131⟩]⟩,
  ⟨some (.u64, (.ofNat 0), (.ofNat 18446744073709551615)), none, [⟨6, cn 4131, cn 4133, cn 4134⟩]⟩,
  ⟨some (.u64, (.ofNat 0), (.ofNat 18446744073709551615)), none, [⟨8, cn 4132, jn 8, cn 4133⟩]⟩,
  ⟨some (.u64, (.ofNat 0), (.ofNat 18446744073709551615)), none, []⟩,
  ⟨some (.u64, (.ofNat 0), (.ofNat 18446744073709551615)), none, [⟨6, cn 4134, cn 4136, cn 4137⟩]⟩,
  ⟨some (.u64, (.ofNat 0), (.ofNat 18446744073709551615)), none, [⟨8, cn 4135, jn 16, cn 4136⟩]⟩,
  ⟨some (.u64, (.ofNat 0), (.ofNat 18446744073709551615)), none, []⟩,
  ⟨some (.u64, (.ofNat 0), (.ofNat 18446744073709551615)), none, [⟨6, cn 4137, cn 4139, cn 4140⟩]⟩,
  ⟨some (.u64, (.ofNat 0), (.ofNat 18446744073709551615)), none, [⟨8, cn 4138, jn 24, cn 4139⟩]⟩,
  ⟨some (.u64, (.ofNat 0), (.ofNat 18446744073709551615)), none, []⟩,
  ⟨some (.u64, (.ofNat 0), (.ofNat 18446744073709551615)), none, []⟩]
noncomputable def tab0 : List NInfo := [z0,
  z0,
  ⟨some (.i64, (.ofNat 10), (.ofNat 99)), none, []⟩,
  z0,
  ⟨some (.u8, (.ofNat 49), (.ofNat 57)), none, []⟩,
  ⟨some (.u8, (.ofNat 48), (.ofNat 57)), none, []⟩,
  z0,
  z0,
  z0,
  z0,
  ⟨some (.i32, (.ofNat 49), (.ofNat 57)), none, []⟩,
  ⟨some (.i32, (.ofNat 48), (.ofNat 57)), none, []⟩,
  z0,
  z0,
  ⟨some (.u8, (.ofNat 1), (.ofNat 9)), none, []⟩,
  ⟨some (.u64, (.ofNat 1), (.ofNat 9)), none, [⟨0, .int .u64 (.ofNat 0), cn 4111, cn 4111⟩]⟩,
  ⟨some (.u8, (.ofNat 0), (.ofNat 9)), none, []⟩,
  ⟨some (.u64, (.ofNat 10), (.ofNat 90)), none, []⟩,
  ⟨some (.u64, (.ofNat 0), (.ofNat 9)), none, []⟩,
  ⟨some (.u64, (.ofNat 10), (.ofNat 99)), none, [⟨13, cn 4115, cn 4113, .bool false⟩, ⟨35, cn 4115, bn 0, cn 4098⟩]⟩,
  ⟨some (.u8, (.ofNat 10), (.ofNat 99)), none, []⟩,
  z0,
  z0,
  z0,
  z0,
  z0,
  z0,
  z0,
  z0,
  z0,
  z0,
  z0,
  z0,
  z0,
  z0,
  z0,
  z0,
  z0,
  z0,
  z0,
  z0,
  z0,
  z0,
  z0,
  ⟨none, none, [⟨12, cn 4140, cn 4120, .bool false⟩]⟩]
noncomputable def tab1 : List NInfo := [z0,
  z0,
  z0,
  ⟨some (.i64, (.ofNat 1), (.ofNat 599)), none, [⟨0, jn 0, cn 4099, cn 4099⟩]⟩,
  z0,
  z0,
  z0,
  z0,
  z0,
  z0,
  z0,
  z0,
  z0,
  z0,
  z0,
  z0,
  z0,
  z0,
  z0,
  z0,
  z0,
  z0,
  z0,
  z0,
  z0,
  z0,
  z0,
  z0,
  z0,
  z0,
  z0,
  z0,
  z0,
  z0,
  z0,
  z0,
  z0,
  z0,
  z0,
  z0,
  z0,
  z0,
  z0,
  z0,
  z0]
noncomputable def tab : List NInfo := (unionT tabS (unionT tab0 tab1))
noncomputable def crcs : List (List Value × Value) := [(z0w10, cn 4119)]
noncomputable abbrev base (a0 : Int) (a1 : Int) (x0 : Nat) (x1 : Nat) : List Value := [.int .i64 a0, .int .i64 a1, .int .i64 (.ofNat x0), .int .i64 (.ofNat x1)]
noncomputable abbrev G (a0 : Int) (a1 : Int) (x0 : Nat) (x1 : Nat) : Sym := symL (mkVals ds (base a0 a1 x0 x1))
set_option maxRecDepth 100000 in
theorem refs_ok : refsAll ds 4 = true := by kernel_rfl
set_option maxRecDepth 100000 in
theorem nam_ok : namDs ds = true := by kernel_rfl
set_option maxRecDepth 100000 in
theorem len_ok : Nat.ble tab.length 4096 = true := by kernel_rfl
set_option maxRecDepth 100000 in
theorem crcs_ok : crcsB ds 4 crcs = true := by kernel_rfl
set_option maxRecDepth 100000 in
theorem sym_ok : symTab (ksOf ds [some .i64, some .i64, some .i64, some .i64]) ds 4 tabS 0 = true := by kernel_rfl
theorem gb0 (a0 : Int) (a1 : Int) (x0 : Nat) (x1 : Nat) : G a0 a1 x0 x1 (4096 - 4096) = .int .i64 a0 := by
  show symL (mkVals ds (base a0 a1 x0 x1)) 0 = _
  rw [symL_low ds (base a0 a1 x0 x1) 0 (by simp)]
  rfl
theorem gb1 (a0 : Int) (a1 : Int) (x0 : Nat) (x1 : Nat) : G a0 a1 x0 x1 (4097 - 4096) = .int .i64 a1 := by
  show symL (mkVals ds (base a0 a1 x0 x1)) 1 = _
  rw [symL_low ds (base a0 a1 x0 x1) 1 (by simp)]
  rfl
theorem gb2 (a0 : Int) (a1 : Int) (x0 : Nat) (x1 : Nat) : G a0 a1 x0 x1 (4098 - 4096) = .int .i64 (.ofNat x0) := by
  show symL (mkVals ds (base a0 a1 x0 x1)) 2 = _
  rw [symL_low ds (base a0 a1 x0 x1) 2 (by simp)]
  rfl
theorem gb3 (a0 : Int) (a1 : Int) (x0 : Nat) (x1 : Nat) : G a0 a1 x0 x1 (4099 - 4096) = .int .i64 (.ofNat x1) := by
  show symL (mkVals ds (base a0 a1 x0 x1)) 3 = _
  rw [symL_low ds (base a0 a1 x0 x1) 3 (by simp)]
  rfl
set_option maxRecDepth 100000 in
theorem tab0_all (a0 : Int) (a1 : Int) (x1 : Nat) : allB 90 (fun i0 => tabB (G a0 a1 (10 + i0) x1) tab0 0) = true := by kernel_rfl
theorem tab0_ok (a0 : Int) (a1 : Int) (x0 : Nat) (x1 : Nat) (h0 : 10 ≤ x0 ∧ x0 < 100) (h1 : 1 ≤ x1 ∧ x1 < 600) : TabOk (G a0 a1 x0 x1) tab0 := by
  have h := (allB_spec (tab0_all a0 a1 x1) (x0 - 10) (by omega))
  rw [show 10 + (x0 - 10) = x0 by omega] at h
  exact tabB_part h
set_option maxRecDepth 100000 in
theorem tab1_all1 (a0 : Int) (a1 : Int) (x0 : Nat) : allB 200 (fun i1 => tabB (G a0 a1 x0 (1 + i1)) tab1 0) = true := by kernel_rfl
set_option maxRecDepth 100000 in
theorem tab1_all201 (a0 : Int) (a1 : Int) (x0 : Nat) : allB 200 (fun i1 => tabB (G a0 a1 x0 (201 + i1)) tab1 0) = true := by kernel_rfl
set_option maxRecDepth 100000 in
theorem tab1_all401 (a0 : Int) (a1 : Int) (x0 : Nat) : allB 199 (fun i1 => tabB (G a0 a1 x0 (401 + i1)) tab1 0) = true := by kernel_rfl
theorem tab1_ok (a0 : Int) (a1 : Int) (x0 : Nat) (x1 : Nat) (h0 : 10 ≤ x0 ∧ x0 < 100) (h1 : 1 ≤ x1 ∧ x1 < 600) : TabOk (G a0 a1 x0 x1) tab1 := by
  by_cases hc1 : x1 < 201
  · have h := (allB_spec (tab1_all1 a0 a1 x0) (x1 - 1) (by omega))
    rw [show 1 + (x1 - 1) = x1 by omega] at h
    exact tabB_part h
  by_cases hc201 : x1 < 401
  · have h := (allB_spec (tab1_all201 a0 a1 x0) (x1 - 201) (by omega))
    rw [show 201 + (x1 - 201) = x1 by omega] at h
    exact tabB_part h
  by_cases hc401 : x1 < 600
  · have h := (allB_spec (tab1_all401 a0 a1 x0) (x1 - 401) (by omega))
    rw [show 401 + (x1 - 401) = x1 by omega] at h
    exact tabB_part h
  · omega
theorem kinv (a0 : Int) (a1 : Int) (x0 : Nat) (x1 : Nat) (h0 : 10 ≤ x0 ∧ x0 < 100) (h1 : 1 ≤ x1 ∧ x1 < 600) (w0 : -9223372036854775808 ≤ a0 ∧ a0 ≤ 9223372036854775807) (w1 : -9223372036854775808 ≤ a1 ∧ a1 ≤ 9223372036854775807) : KInv (symL (base a0 a1 x0 x1)) [some .i64, some .i64, some .i64, some .i64] := by
  intro i k hi
  match i, hi with
  | 0, hi => cases hi; exact ⟨a0, rfl, by rw [inK_iff]; exact w0⟩
  | 1, hi => cases hi; exact ⟨a1, rfl, by rw [inK_iff]; exact w1⟩
  | 2, hi => cases hi; exact ⟨.ofNat x0, rfl, by rw [inK_iff]; show (-9223372036854775808 : Int) ≤ (x0 : Int) ∧ (x0 : Int) ≤ 9223372036854775807; omega⟩
  | 3, hi => cases hi; exact ⟨.ofNat x1, rfl, by rw [inK_iff]; show (-9223372036854775808 : Int) ≤ (x1 : Int) ∧ (x1 : Int) ≤ 9223372036854775807; omega⟩
  | n + 4, hi => cases hi
theorem named_ok (a0 : Int) (a1 : Int) (x0 : Nat) (x1 : Nat) (i : Nat) : named (G a0 a1 x0 x1 i) := symL_named' (mkVals_named (by intro v hv; simp only [base, List.mem_cons, List.not_mem_nil, or_false] at hv; rcases hv with rfl | rfl | rfl | rfl <;> trivial) nam_ok) i
theorem names_ok (a0 : Int) (a1 : Int) (x0 : Nat) (x1 : Nat) (h0 : 10 ≤ x0 ∧ x0 < 100) (h1 : 1 ≤ x1 ∧ x1 < 600) (w0 : -9223372036854775808 ≤ a0 ∧ a0 ≤ 9223372036854775807) (w1 : -9223372036854775808 ≤ a1 ∧ a1 ≤ 9223372036854775807) : NamesOk (G a0 a1 x0 x1) (Names.ofL tab) := namesOk_parts (named_ok a0 a1 x0 x1) len_ok (TabOk.union (symTab_part (l := base a0 a1 x0 x1) rfl (kinv a0 a1 x0 x1 h0 h1 w0 w1) refs_ok sym_ok) (TabOk.union (tab0_ok a0 a1 x0 x1 h0 h1 ) (tab1_ok a0 a1 x0 x1 h0 h1 )))
theorem crc_ok (a0 : Int) (a1 : Int) (x0 : Nat) (x1 : Nat) : CrcOk (G a0 a1 x0 x1) crcs := crcsB_ok (l := base a0 a1 x0 x1) refs_ok crcs_ok
noncomputable def pargs0 : List Value := [cn 4098]
noncomputable def pres0 : Value := cn 4102
noncomputable def pargs1 : List Value := [cn 4098]
noncomputable def pres1 : Value := cn 4102
end Go.Proofs.YtemmgompegkgkaaGreatDoor.toplasts.d2w1f
namespace Go.Proofs.YtemmgompegkgkaaGreatDoor.toplasts.d2w2f
open Go Vai
set_option linter.unusedVariables false
set_option linter.unusedSimpArgs false
noncomputable def ds : List NDef := [.idx .u8 (cn 4098) 10 z0w1,
  .idx .u8 (cn 4098) 10 z0w2,
  .str [cn 4099, cn 4100],
  .str [bn 49, bn 48, bn 46, bn 48, bn 46, bn 48, bn 46, cn 4099, cn 4100],
  .str [bn 49, bn 48, bn 46, bn 48, bn 46, bn 48, bn 46, cn 4099, cn 4100, bn 32, bn 104, bn 10],
  .str [bn 49, bn 48, bn 46, bn 48, bn 46, bn 48, bn 46, cn 4099, cn 4100, bn 32, bn 104],
  .ent 34 (cn 4099) (bn 0),
  .ent 34 (cn 4100) (bn 0),
  .str [bn 48, bn 46, bn 48, bn 46, cn 4099, cn 4100],
  .str [bn 48, bn 46, cn 4099, cn 4100],
  .ent 1 (cn 4099) (bn 48),
  .ent 39 (cn 4109) (bn 0),
  .ent 1 (cn 4100) (bn 48),
  .ent 2 (cn 4110) (.int .u64 (.ofNat 10)),
  .ent 39 (cn 4111) (bn 0),
  .ent 0 (cn 4112) (cn 4113),
  .ent 36 (cn 4114) (bn 0),
  .str [bn 10, bn 0, bn 0, cn 4115],
  .str [bn 0, bn 0, bn 0, bn 0, bn 0, bn 0, bn 0, bn 0, bn 0, bn 0, bn 255, bn 255, bn 10, bn 0, bn 0, cn 4115],
  .crc z0w9,
  .ent 39 (cn 4118) (bn 0),
  .ent 9 (cn 4119) (jn 0),
  .ent 36 (cn 4120) (bn 0),
  .ent 9 (cn 4119) (jn 8),
  .ent 36 (cn 4122) (bn 0),
  .ent 9 (cn 4119) (jn 16),
  .ent 36 (cn 4124) (bn 0),
  .ent 9 (cn 4119) (jn 24),
  .ent 36 (cn 4126) (bn 0),
  .ent 39 (cn 4121) (bn 0),
  .ent 8 (cn 4128) (jn 0),
  .ent 6 (.int .u64 (.ofNat 0)) (cn 4129),
  .ent 39 (cn 4123) (bn 0),
  .ent 8 (cn 4131) (jn 8),
  .ent 6 (cn 4130) (cn 4132),
  .ent 39 (cn 4125) (bn 0),
  .ent 8 (cn 4134) (jn 16),
  .ent 6 (cn 4133) (cn 4135),
  .ent 39 (cn 4127) (bn 0),
  .ent 8 (cn 4137) (jn 24),
  .ent 6 (cn 4136) (cn 4138),
  .crc z0w15,
  .ent 39 (cn 4140) (bn 0),
  .ent 9 (cn 4141) (jn 0),
  .ent 36 (cn 4142) (bn 0),
  .ent 9 (cn 4141) (jn 8),
  .ent 36 (cn 4144) (bn 0),
  .ent 9 (cn 4141) (jn 16),
  .ent 36 (cn 4146) (bn 0),
  .ent 9 (cn 4141) (jn 24),
  .ent 36 (cn 4148) (bn 0)]
noncomputable def tabS : List NInfo := [z0,
  z0,
  z0,
  ⟨none, none, [⟨34, cn 4099, bn 0, cn 4105⟩, ⟨1, cn 4099, bn 48, cn 4109⟩]⟩,
  ⟨none, none, [⟨34, cn 4100, bn 0, cn 4106⟩, ⟨1, cn 4100, bn 48, cn 4111⟩]⟩,
  ⟨none, some [cn 4099, cn 4100], []⟩,
  ⟨none, some [bn 49, bn 48, bn 46, bn 48, bn 46, bn 48, bn 46, cn 4099, cn 4100], []⟩,
  ⟨none, some [bn 49, bn 48, bn 46, bn 48, bn 46, bn 48, bn 46, cn 4099, cn 4100, bn 32, bn 104, bn 10], []⟩,
  ⟨none, some [bn 49, bn 48, bn 46, bn 48, bn 46, bn 48, bn 46, cn 4099, cn 4100, bn 32, bn 104], []⟩,
  z0,
  z0,
  ⟨none, some [bn 48, bn 46, bn 48, bn 46, cn 4099, cn 4100], []⟩,
  ⟨none, some [bn 48, bn 46, cn 4099, cn 4100], []⟩,
  ⟨none, none, [⟨39, cn 4109, bn 0, cn 4110⟩]⟩,
  ⟨none, none, [⟨2, cn 4110, .int .u64 (.ofNat 10), cn 4112⟩]⟩,
  ⟨none, none, [⟨39, cn 4111, bn 0, cn 4113⟩]⟩,
  ⟨none, none, [⟨0, cn 4112, cn 4113, cn 4114⟩]⟩,
  z0,
  ⟨none, none, [⟨36, cn 4114, bn 0, cn 4115⟩]⟩,
  z0,
  ⟨none, some [bn 10, bn 0, bn 0, cn 4115], []⟩,
  ⟨none, some [bn 0, bn 0, bn 0, bn 0, bn 0, bn 0, bn 0, bn 0, bn 0, bn 0, bn 255, bn 255, bn 10, bn 0, bn 0, cn 4115], []⟩,
  ⟨some (.u32, (.ofNat 0), (.ofNat 4294967295)), none, [⟨39, cn 4118, bn 0, cn 4119⟩]⟩,
  ⟨some (.u64, (.ofNat 0), (.ofNat 18446744073709551615)), none, [⟨9, cn 4119, jn 0, cn 4120⟩, ⟨9, cn 4119, jn 8, cn 4122⟩, ⟨9, cn 4119, jn 16, cn 4124⟩, ⟨9, cn 4119, jn 24, cn 4126⟩]⟩,
  ⟨some (.u64, (.ofNat 0), (.ofNat 18446744073709551615)), none, [⟨36, cn 4120, bn 0, cn 4121⟩]⟩,
  ⟨some (.u8, (.ofNat 0), (.ofNat 255)), none, [⟨39, cn 4121, bn 0, cn 4128⟩]⟩,
  ⟨some (.u64, (.ofNat 0), (.ofNat 18446744073709551615)), none, [⟨36, cn 4122, bn 0, cn 4123⟩]⟩,
  ⟨some (.u8, (.ofNat 0), (.ofNat 255)), none, [⟨39, cn 4123, bn 0, cn 4131⟩]⟩,
  ⟨some (.u64, (.ofNat 0), (.ofNat 18446744073709551615)), none, [⟨36, cn 4124, bn 0, cn 4125⟩]⟩,
  ⟨some (.u8, (.ofNat 0), (.ofNat 255)), none, [⟨39, cn 4125, bn 0, cn 4134⟩]⟩,
  ⟨some (.u64, (.ofNat 0), (.ofNat 18446744073709551615)), none, [⟨36, cn 4126, bn 0, cn 4127⟩]⟩,
  ⟨some (.u8, (.ofNat 0), (.ofNat 255)), none, [⟨39, cn 4127, bn 0, cn 4137⟩]⟩,
  ⟨some (.u64, (.ofNat 0), (.ofNat 18446744073709551615)), none, [⟨8, cn 4128, jn 0, cn 4129⟩]⟩,
  ⟨some (.u64, (.ofNat 0), (.ofNat 18446744073709551615)), none, [⟨6, .int .u64 (.ofNat 0), cn 4129, cn 4130⟩]⟩,
  ⟨some (.u64, (.ofNat 0), (.ofNat 18446744073709551615)), none, [⟨6, cn 4130, cn 4132, cn 4133⟩]⟩,
  ⟨some (.u64, (.ofNat 0), (.ofNat 18446744073709551615)), none, [⟨8, cn 4131, jn 8, cn 4132⟩]⟩,
  ⟨some (.u64, (.ofNat 0), (.ofNat 18446744073709551615)), none, []⟩,
  ⟨some (.u64, (.ofNat 0), (.ofNat 18446744073709551615)), none, [⟨6, cn 4133, cn 4135, cn 4136⟩]⟩,
  ⟨some (.u64, (.ofNat 0), (.ofNat 18446744073709551615)), none, [⟨8, cn 4134, jn 16, cn 4135⟩]⟩,
  ⟨some (.u64, (.ofNat 0), (.ofNat 18446744073709551615)), none, []⟩,
  ⟨some (.u64, (.ofNat 0), (.ofNat 18446744073709551615)), none, [⟨6, cn 4136, cn 4138, cn 4139⟩]⟩,
  ⟨some (.u64, (.ofNat 0), (.ofNat 18446744073709551615)), none, [⟨8, cn 4137, jn 24, cn 4138⟩]⟩,
  ⟨some (.u64, (.ofNat 0), (.ofNat 18446744073709551615)), none, []⟩,
  ⟨some (.u64, (.ofNat 0), (.ofNat 18446744073709551615)), none, []⟩,
  ⟨some (.u32, (.ofNat 0), (.ofNat 4294967295)), none, [⟨39, cn 4140, bn 0, cn 4141⟩]⟩,
  ⟨some (.u64, (.ofNat 0), (.ofNat 18446744073709551615)), none, [⟨9, cn 4141, jn 0, cn 4142⟩, ⟨9, cn 4141, jn 8, cn 4144⟩, ⟨9, cn 4141, jn 16, cn 4146⟩, ⟨9, cn 4141, jn 24, cn 4148⟩]⟩,
  ⟨some (.u64, (.ofNat 0), (.ofNat 18446744073709551615)), none, [⟨36, cn 4142, bn 0, cn 4143⟩]⟩,
  ⟨some (.u8, (.ofNat 0), (.ofNat 255)), none, []⟩,
  ⟨some (.u64, (.ofNat 0), (.ofNat 18446744073709551615)), none, [⟨36, cn 4144, bn 0, cn 4145⟩]⟩,
  ⟨some (.u8, (.ofNat 0), (.ofNat 255)), none, []⟩,
  ⟨some (.u64, (.ofNat 0), (.ofNat 18446744073709551615)), none, [⟨36, cn 4146, bn 0, cn 4147⟩]⟩,
  ⟨some (.u8, (.ofNat 0), (.ofNat 255)), none, []⟩,
  ⟨some (.u64, (.ofNat 0), (.ofNat 18446744073709551615)), none, [⟨36, cn 4148, bn 0, cn 4149⟩]⟩,
  ⟨some (.u8, (.ofNat 0), (.ofNat 255)), none, []⟩]
noncomputable def tab0 : List NInfo := [z0,
  z0,
  ⟨some (.i64, (.ofNat 10), (.ofNat 99)), none, []⟩,
  ⟨some (.u8, (.ofNat 49), (.ofNat 57)), none, []⟩,
  ⟨some (.u8, (.ofNat 48), (.ofNat 57)), none, []⟩,
  z0,
  z0,
  z0,
  z0,
  ⟨some (.i32, (.ofNat 49), (.ofNat 57)), none, []⟩,
  ⟨some (.i32, (.ofNat 48), (.ofNat 57)), none, []⟩,
  z0,
  z0,
  ⟨some (.u8, (.ofNat 1), (.ofNat 9)), none, []⟩,
  ⟨some (.u64, (.ofNat 1), (.ofNat 9)), none, [⟨0, .int .u64 (.ofNat 0), cn 4110, cn 4110⟩]⟩,
  ⟨some (.u8, (.ofNat 0), (.ofNat 9)), none, []⟩,
  ⟨some (.u64, (.ofNat 10), (.ofNat 90)), none, []⟩,
  ⟨some (.u64, (.ofNat 0), (.ofNat 9)), none, []⟩,
  ⟨some (.u64, (.ofNat 10), (.ofNat 99)), none, [⟨13, cn 4114, cn 4112, .bool false⟩, ⟨35, cn 4114, bn 0, cn 4098⟩]⟩,
  ⟨some (.u8, (.ofNat 10), (.ofNat 99)), none, []⟩,
  z0,
  z0,
  z0,
  z0,
  z0,
  z0,
  z0,
  z0,
  z0,
  z0,
  z0,
  z0,
  z0,
  z0,
  z0,
  z0,
  z0,
  z0,
  z0,
  z0,
  z0,
  z0,
  z0,
  ⟨none, none, [⟨12, cn 4139, cn 4119, .bool false⟩]⟩,
  z0,
  z0,
  z0,
  z0,
  z0,
  z0,
  z0,
  z0,
  z0,
  z0]
noncomputable def tab : List NInfo := (unionT tabS tab0)
noncomputable def crcs : List (List Value × Value) := [(z0w9, cn 4118),
  (z0w15, cn 4140)]
noncomputable abbrev base (a0 : Int) (a1 : Int) (x0 : Nat) : List Value := [.int .i64 a0, .int .i64 a1, .int .i64 (.ofNat x0)]
noncomputable abbrev G (a0 : Int) (a1 : Int) (x0 : Nat) : Sym := symL (mkVals ds (base a0 a1 x0))
set_option maxRecDepth 100000 in
theorem refs_ok : refsAll ds 3 = true := by kernel_rfl
set_option maxRecDepth 100000 in
theorem nam_ok : namDs ds = true := by kernel_rfl
set_option maxRecDepth 100000 in
theorem len_ok : Nat.ble tab.length 4096 = true := by kernel_rfl
set_option maxRecDepth 100000 in
theorem crcs_ok : crcsB ds 3 crcs = true := by kernel_rfl
set_option maxRecDepth 100000 in
theorem sym_ok : symTab (ksOf ds [some .i64, some .i64, some .i64]) ds 3 tabS 0 = true := by kernel_rfl
theorem gb0 (a0 : Int) (a1 : Int) (x0 : Nat) : G a0 a1 x0 (4096 - 4096) = .int .i64 a0 := by
  show symL (mkVals ds (base a0 a1 x0)) 0 = _
  rw [symL_low ds (base a0 a1 x0) 0 (by simp)]
  rfl
theorem gb1 (a0 : Int) (a1 : Int) (x0 : Nat) : G a0 a1 x0 (4097 - 4096) = .int .i64 a1 := by
  show symL (mkVals ds (base a0 a1 x0)) 1 = _
  rw [symL_low ds (base a0 a1 x0) 1 (by simp)]
  rfl
theorem gb2 (a0 : Int) (a1 : Int) (x0 : Nat) : G a0 a1 x0 (4098 - 4096) = .int .i64 (.ofNat x0) := by
  show symL (mkVals ds (base a0 a1 x0)) 2 = _
  rw [symL_low ds (base a0 a1 x0) 2 (by simp)]
  rfl
set_option maxRecDepth 100000 in
theorem tab0_all (a0 : Int) (a1 : Int) : allB 90 (fun i0 => tabB (G a0 a1 (10 + i0)) tab0 0) = true := by kernel_rfl
theorem tab0_ok (a0 : Int) (a1 : Int) (x0 : Nat) (h0 : 10 ≤ x0 ∧ x0 < 100) : TabOk (G a0 a1 x0) tab0 := by
  have h := (allB_spec (tab0_all a0 a1 ) (x0 - 10) (by omega))
  rw [show 10 + (x0 - 10) = x0 by omega] at h
  exact tabB_part h
theorem kinv (a0 : Int) (a1 : Int) (x0 : Nat) (h0 : 10 ≤ x0 ∧ x0 < 100) (w0 : -9223372036854775808 ≤ a0 ∧ a0 ≤ 9223372036854775807) (w1 : -9223372036854775808 ≤ a1 ∧ a1 ≤ 9223372036854775807) : KInv (symL (base a0 a1 x0)) [some .i64, some .i64, some .i64] := by
  intro i k hi
  match i, hi with
  | 0, hi => cases hi; exact ⟨a0, rfl, by rw [inK_iff]; exact w0⟩
  | 1, hi => cases hi; exact ⟨a1, rfl, by rw [inK_iff]; exact w1⟩
  | 2, hi => cases hi; exact ⟨.ofNat x0, rfl, by rw [inK_iff]; show (-9223372036854775808 : Int) ≤ (x0 : Int) ∧ (x0 : Int) ≤ 9223372036854775807; omega⟩
  | n + 3, hi => cases hi
theorem named_ok (a0 : Int) (a1 : Int) (x0 : Nat) (i : Nat) : named (G a0 a1 x0 i) := symL_named' (mkVals_named (by intro v hv; simp only [base, List.mem_cons, List.not_mem_nil, or_false] at hv; rcases hv with rfl | rfl | rfl <;> trivial) nam_ok) i
theorem names_ok (a0 : Int) (a1 : Int) (x0 : Nat) (h0 : 10 ≤ x0 ∧ x0 < 100) (w0 : -9223372036854775808 ≤ a0 ∧ a0 ≤ 9223372036854775807) (w1 : -9223372036854775808 ≤ a1 ∧ a1 ≤ 9223372036854775807) : NamesOk (G a0 a1 x0) (Names.ofL tab) := namesOk_parts (named_ok a0 a1 x0) len_ok (TabOk.union (symTab_part (l := base a0 a1 x0) rfl (kinv a0 a1 x0 h0 w0 w1) refs_ok sym_ok) (tab0_ok a0 a1 x0 h0 ))
theorem crc_ok (a0 : Int) (a1 : Int) (x0 : Nat) : CrcOk (G a0 a1 x0) crcs := crcsB_ok (l := base a0 a1 x0) refs_ok crcs_ok
noncomputable def pargs0 : List Value := [cn 4098]
noncomputable def pres0 : Value := cn 4101
noncomputable def pargs1 : List Value := [cn 4098]
noncomputable def pres1 : Value := cn 4101
end Go.Proofs.YtemmgompegkgkaaGreatDoor.toplasts.d2w2f
namespace Go.Proofs.YtemmgompegkgkaaGreatDoor.toplasts.d2w3f
open Go Vai
set_option linter.unusedVariables false
set_option linter.unusedSimpArgs false
noncomputable def ds : List NDef := [.idx .u8 (cn 4098) 10 z0w1,
  .idx .u8 (cn 4098) 10 z0w2,
  .str [cn 4100, cn 4101],
  .str [bn 49, bn 48, bn 46, bn 48, bn 46, bn 48, bn 46, cn 4100, cn 4101],
  .str [bn 49, bn 48, bn 46, bn 48, bn 46, bn 48, bn 46, cn 4100, cn 4101, bn 32, bn 104, bn 10],
  .str [bn 49, bn 48, bn 46, bn 48, bn 46, bn 48, bn 46, cn 4100, cn 4101, bn 32, bn 104],
  .ent 34 (cn 4100) (bn 0),
  .ent 34 (cn 4101) (bn 0),
  .str [bn 48, bn 46, bn 48, bn 46, cn 4100, cn 4101],
  .str [bn 48, bn 46, cn 4100, cn 4101],
  .ent 1 (cn 4100) (bn 48),
  .ent 39 (cn 4110) (bn 0),
  .ent 1 (cn 4101) (bn 48),
  .ent 2 (cn 4111) (.int .u64 (.ofNat 10)),
  .ent 39 (cn 4112) (bn 0),
  .ent 0 (cn 4113) (cn 4114),
  .ent 36 (cn 4115) (bn 0),
  .str [bn 10, bn 0, bn 0, cn 4116],
  .str [bn 0, bn 0, bn 0, bn 0, bn 0, bn 0, bn 0, bn 0, bn 0, bn 0, bn 255, bn 255, bn 10, bn 0, bn 0, cn 4116],
  .crc z0w10,
  .ent 39 (cn 4119) (bn 0),
  .ent 9 (cn 4120) (jn 0),
  .ent 36 (cn 4121) (bn 0),
  .ent 9 (cn 4120) (jn 8),
  .ent 36 (cn 4123) (bn 0),
  .ent 9 (cn 4120) (jn 16),
  .ent 36 (cn 4125) (bn 0),
  .ent 9 (cn 4120) (jn 24),
  .ent 36 (cn 4127) (bn 0),
  .ent 39 (cn 4122) (bn 0),
  .ent 8 (cn 4129) (jn 0),
  .ent 6 (.int .u64 (.ofNat 0)) (cn 4130),
  .ent 39 (cn 4124) (bn 0),
  .ent 8 (cn 4132) (jn 8),
  .ent 6 (cn 4131) (cn 4133),
  .ent 39 (cn 4126) (bn 0),
  .ent 8 (cn 4135) (jn 16),
  .ent 6 (cn 4134) (cn 4136),
  .ent 39 (cn 4128) (bn 0),
  .ent 8 (cn 4138) (jn 24),
  .ent 6 (cn 4137) (cn 4139),
  .ent 0 (cn 4099) (jn 600),
  .ent 39 (cn 4141) (bn 0),
  .ent 36 (cn 4142) (bn 0),
  .ent 9 (cn 4142) (jn 8),
  .ent 36 (cn 4144) (bn 0),
  .crc z0w16,
  .ent 39 (cn 4146) (bn 0),
  .ent 9 (cn 4147) (jn 0),
  .ent 36 (cn 4148) (bn 0),
  .ent 9 (cn 4147) (jn 8),
  .ent 36 (cn 4150) (bn 0),
  .ent 9 (cn 4147) (jn 16),
  .ent 36 (cn 4152) (bn 0),
  .ent 9 (cn 4147) (jn 24),
  .ent 36 (cn 4154) (bn 0)]
noncomputable def tabS : List NInfo := [z0,
  z0,
  z0,
  ⟨none, none, [⟨0, cn 4099, jn 600, cn 4141⟩]⟩,
  ⟨none, none, [⟨34, cn 4100, bn 0, cn 4106⟩, ⟨1, cn 4100, bn 48, cn 4110⟩]⟩,
  ⟨none, none, [⟨34, cn 4101, bn 0, cn 4107⟩, ⟨1, cn 4101, bn 48, cn 4112⟩]⟩,
  ⟨none, some [cn 4100, cn 4101], []⟩,
  ⟨none, some [bn 49, bn 48, bn 46, bn 48, bn 46, bn 48, bn 46, cn 4100, cn 4101], []⟩,
  ⟨none, some [bn 49, bn 48, bn 46, bn 48, bn 46, bn 48, bn 46, cn 4100, cn 4101, bn 32, bn 104, bn 10], []⟩,
  ⟨none, some [bn 49, bn 48, bn 46, bn 48, bn 46, bn 48, bn 46, cn 4100, cn 4101, bn 32, bn 104], []⟩,
  z0,
  z0,
  ⟨none, some [bn 48, bn 46, bn 48, bn 46, cn 4100, cn 4101], []⟩,
  ⟨none, some [bn 48, bn 46, cn 4100, cn 4101], []⟩,
  ⟨none, none, [⟨39, cn 4110, bn 0, cn 4111⟩]⟩,
  ⟨none, none, [⟨2, cn 4111, .int .u64 (.ofNat 10), cn 4113⟩]⟩,
  ⟨none, none, [⟨39, cn 4112, bn 0, cn 4114⟩]⟩,
  ⟨none, none, [⟨0, cn 4113, cn 4114, cn 4115⟩]⟩,
  z0,
  ⟨none, none, [⟨36, cn 4115, bn 0, cn 4116⟩]⟩,
  z0,
  ⟨none, some [bn 10, bn 0, bn 0, cn 4116], []⟩,
  ⟨none, some [bn 0, bn 0, bn 0, bn 0, bn 0, bn 0, bn 0, bn 0, bn 0, bn 0, bn 255, bn 255, bn 10, bn 0, bn 0, cn 4116], []⟩,
  ⟨some (.u32, (.ofNat 0), (.ofNat 4294967295)), none, [⟨39, cn 4119, bn 0, cn 4120⟩]⟩,
  ⟨some (.u64, (.ofNat 0), (.ofNat 18446744073709551615)), none, [⟨9, cn 4120, jn 0, cn 4121⟩, ⟨9, cn 4120, jn 8, cn 4123⟩, ⟨9, cn 4120, jn 16, cn 4125⟩, ⟨9, cn 4120, jn 24, cn 4127⟩]⟩,
  ⟨some (.u64, (.ofNat 0), (.ofNat 18446744073709551615)), none, [⟨36, cn 4121, bn 0, cn 4122⟩]⟩,
  ⟨some (.u8, (.ofNat 0), (.ofNat 255)), none, [⟨39, cn 4122, bn 0, cn 4129⟩]⟩,
  ⟨some (.u64, (.ofNat 0), (.ofNat 18446744073709551615)), none, [⟨36, cn 4123, bn 0, cn 4124⟩]⟩,
  ⟨some (.u8, (.ofNat 0), (.ofNat 255)), none, [⟨39, cn 4124, bn 0, cn 4132⟩]⟩,
  ⟨some (.u64, (.ofNat 0), (.ofNat 18446744073709551615)), none, [⟨36, cn 4125, bn 0, cn 4126⟩]⟩,
  ⟨some (.u8, (.ofNat 0), (.ofNat 255)), none, [⟨39, cn 4126, bn 0, cn 4135⟩]⟩,
  ⟨some (.u64, (.ofNat 0), (.ofNat 18446744073709551615)), none, [⟨36, cn 4127, bn 0, cn 4128⟩]⟩,
  ⟨some (.u8, (.ofNat 0), (.ofNat 255)), none, [⟨39, cn 4128, bn 0, cn 4138⟩]⟩,
  ⟨some (.u64, (.ofNat 0), (.ofNat 18446744073709551615)), none, [⟨8, cn 4129, jn 0, cn 4130⟩]⟩,
  ⟨some (.u64, (.ofNat 0), (.ofNat 18446744073709551615)), none, [⟨6, .int .u64 (.ofNat 0), cn 4130, cn 4131⟩]⟩,
  ⟨some (.u64, (.ofNat 0), (.ofNat 18446744073709551615)), none, [⟨6, cn 4131, cn 4133, cn 4134⟩]⟩,
  ⟨some (.u64, (.ofNat 0), (.ofNat 18446744073709551615)), none, [⟨8, cn 4132, jn 8, cn 4133⟩]⟩,
  ⟨some (.u64, (.ofNat 0), (.ofNat 18446744073709551615)), none, []⟩,
  ⟨some (.u64, (.ofNat 0), (.ofNat 18446744073709551615)), none, [⟨6, cn 4134, cn 4136, cn 4137⟩]⟩,
  ⟨some (.u64, (.ofNat 0), (.ofNat 18446744073709551615)), none, [⟨8, cn 4135, jn 16, cn 4136⟩]⟩,
  ⟨some (.u64, (.ofNat 0), (.ofNat 18446744073709551615)), none, []⟩,
  ⟨some (.u64, (.ofNat 0), (.ofNat 18446744073709551615)), none, [⟨6, cn 4137, cn 4139, cn 4140⟩]⟩,
  ⟨some (.u64, (.ofNat 0), (.ofNat 18446744073709551615)), none, [⟨8, cn 4138, jn 24, cn 4139⟩]⟩,
  ⟨some (.u64, (.ofNat 0), (.ofNat 18446744073709551615)), none, []⟩,
  ⟨some (.u64, (.ofNat 0), (.ofNat 18446744073709551615)), none, []⟩,
  ⟨none, none, [⟨39, cn 4141, bn 0, cn 4142⟩]⟩,
  ⟨none, none, [⟨36, cn 4142, bn 0, cn 4143⟩, ⟨9, cn 4142, jn 8, cn 4144⟩]⟩,
  z0,
  ⟨none, none, [⟨36, cn 4144, bn 0, cn 4145⟩]⟩,
  z0,
  ⟨some (.u32, (.ofNat 0), (.ofNat 4294967295)), none, [⟨39, cn 4146, bn 0, cn 4147⟩]⟩,
  ⟨some (.u64, (.ofNat 0), (.ofNat 18446744073709551615)), none, [⟨9, cn 4147, jn 0, cn 4148⟩, ⟨9, cn 4147, jn 8, cn 4150⟩, ⟨9, cn 4147, jn 16, cn 4152⟩, ⟨9, cn 4147, jn 24, cn 4154⟩]⟩,
  ⟨some (.u64, (.ofNat 0), (.ofNat 18446744073709551615)), none, [⟨36, cn 4148, bn 0, cn 4149⟩]⟩,
  ⟨some (.u8, (.ofNat 0), (.ofNat 255)), none, []⟩,
  ⟨some (.u64, (.ofNat 0), (.ofNat 18446744073709551615)), none, [⟨36, cn 4150, bn 0, cn 4151⟩]⟩,
  ⟨some (.u8, (.ofNat 0), (.ofNat 255)), none, []⟩,
  ⟨some (.u64, (.ofNat 0), (.ofNat 18446744073709551615)), none, [⟨36, cn 4152, bn 0, cn 4153⟩]⟩,
  ⟨some (.u8, (.ofNat 0), (.ofNat 255)), none, []⟩,
  ⟨some (.u64, (.ofNat 0), (.ofNat 18446744073709551615)), none, [⟨36, cn 4154, bn 0, cn 4155⟩]⟩,
  ⟨some (.u8, (.ofNat 0), (.ofNat 255)), none, []⟩]
noncomputable def tab0 : List NInfo := [z0,
  z0,
  ⟨some (.i64, (.ofNat 10), (.ofNat 99)), none, []⟩,
  z0,
  ⟨some (.u8, (.ofNat 49), (.ofNat 57)), none, []⟩,
  ⟨some (.u8, (.ofNat 48), (.ofNat 57)), none, []⟩,
  z0,
  z0,
  z0,
  z0,
  ⟨some (.i32, (.ofNat 49), (.ofNat 57)), none, []⟩,
  ⟨some (.i32, (.ofNat 48), (.ofNat 57)), none, []⟩,
  z0,
  z0,
  ⟨some (.u8, (.ofNat 1), (.ofNat 9)), none, []⟩,
  ⟨some (.u64, (.ofNat 1), (.ofNat 9)), none, [⟨0, .int .u64 (.ofNat 0), cn 4111, cn 4111⟩]⟩,
  ⟨some (.u8, (.ofNat 0), (.ofNat 9)), none, []⟩,
  ⟨some (.u64, (.ofNat 10), (.ofNat 90)), none, []⟩,
  ⟨some (.u64, (.ofNat 0), (.ofNat 9)), none, []⟩,
  ⟨some (.u64, (.ofNat 10), (.ofNat 99)), none, [⟨13, cn 4115, cn 4113, .bool false⟩, ⟨35, cn 4115, bn 0, cn 4098⟩]⟩,
  ⟨some (.u8, (.ofNat 10), (.ofNat 99)), none, []⟩,
  z0,
  z0,
  z0,
  z0,
  z0,
  z0,
  z0,
  z0,
  z0,
  z0,
  z0,
  z0,
  z0,
  z0,
  z0,
  z0,
  z0,
  z0,
  z0,
  z0,
  z0,
  z0,
  z0,
  ⟨none, none, [⟨12, cn 4140, cn 4120, .bool false⟩]⟩,
  z0,
  z0,
  z0,
  z0,
  z0,
  z0,
  z0,
  z0,
  z0,
  z0,
  z0,
  z0,
  z0,
  z0,
  z0]
noncomputable def tab1 : List NInfo := [z0,
  z0,
  z0,
  ⟨some (.i64, (.ofNat 601), (.ofNat 899)), none, [⟨0, jn 0, cn 4099, cn 4099⟩]⟩,
  z0,
  z0,
  z0,
  z0,
  z0,
  z0,
  z0,
  z0,
  z0,
  z0,
  z0,
  z0,
  z0,
  z0,
  z0,
  z0,
  z0,
  z0,
  z0,
  z0,
  z0,
  z0,
  z0,
  z0,
  z0,
  z0,
  z0,
  z0,
  z0,
  z0,
  z0,
  z0,
  z0,
  z0,
  z0,
  z0,
  z0,
  z0,
  z0,
  z0,
  z0,
  ⟨some (.i64, (.ofNat 1201), (.ofNat 1499)), none, []⟩,
  ⟨some (.u64, (.ofNat 1201), (.ofNat 1499)), none, [⟨9, cn 4142, jn 0, cn 4142⟩, ⟨9, cn 4142, jn 16, .int .u64 (.ofNat 0)⟩, ⟨9, cn 4142, jn 24, .int .u64 (.ofNat 0)⟩, ⟨9, cn 4142, jn 32, .int .u64 (.ofNat 0)⟩, ⟨9, cn 4142, jn 40, .int .u64 (.ofNat 0)⟩, ⟨9, cn 4142, jn 48, .int .u64 (.ofNat 0)⟩, ⟨9, cn 4142, jn 56, .int .u64 (.ofNat 0)⟩]⟩,
  ⟨some (.u8, (.ofNat 0), (.ofNat 255)), none, []⟩,
  ⟨some (.u64, (.ofNat 4), (.ofNat 5)), none, []⟩,
  ⟨some (.u8, (.ofNat 4), (.ofNat 5)), none, []⟩,
  z0,
  z0,
  z0,
  z0,
  z0,
  z0,
  z0,
  z0,
  z0,
  z0]
noncomputable def tab : List NInfo := (unionT tabS (unionT tab0 tab1))
noncomputable def crcs : List (List Value × Value) := [(z0w10, cn 4119),
  (z0w16, cn 4146)]
noncomputable abbrev base (a0 : Int) (a1 : Int) (x0 : Nat) (x1 : Nat) : List Value := [.int .i64 a0, .int .i64 a1, .int .i64 (.ofNat x0), .int .i64 (.ofNat x1)]
noncomputable abbrev G (a0 : Int) (a1 : Int) (x0 : Nat) (x1 : Nat) : Sym := symL (mkVals ds (base a0 a1 x0 x1))
set_option maxRecDepth 100000 in
theorem refs_ok : refsAll ds 4 = true := by kernel_rfl
set_option maxRecDepth 100000 in
theorem nam_ok : namDs ds = true := by kernel_rfl
set_option maxRecDepth 100000 in
theorem len_ok : Nat.ble tab.length 4096 = true := by kernel_rfl
set_option maxRecDepth 100000 in
theorem crcs_ok : crcsB ds 4 crcs = true := by kernel_rfl
set_option maxRecDepth 100000 in
theorem sym_ok : symTab (ksOf ds [some .i64, some .i64, some .i64, some .i64]) ds 4 tabS 0 = true := by kernel_rfl
theorem gb0 (a0 : Int) (a1 : Int) (x0 : Nat) (x1 : Nat) : G a0 a1 x0 x1 (4096 - 4096) = .int .i64 a0 := by
  show symL (mkVals ds (base a0 a1 x0 x1)) 0 = _
  rw [symL_low ds (base a0 a1 x0 x1) 0 (by simp)]
  rfl
theorem gb1 (a0 : Int) (a1 : Int) (x0 : Nat) (x1 : Nat) : G a0 a1 x0 x1 (4097 - 4096) = .int .i64 a1 := by
  show symL (mkVals ds (base a0 a1 x0 x1)) 1 = _
  rw [symL_low ds (base a0 a1 x0 x1) 1 (by simp)]
  rfl
theorem gb2 (a0 : Int) (a1 : Int) (x0 : Nat) (x1 : Nat) : G a0 a1 x0 x1 (4098 - 4096) = .int .i64 (.ofNat x0) := by
  show symL (mkVals ds (base a0 a1 x0 x1)) 2 = _
  rw [symL_low ds (base a0 a1 x0 x1) 2 (by simp)]
  rfl
theorem gb3 (a0 : Int) (a1 : Int) (x0 : Nat) (x1 : Nat) : G a0 a1 x0 x1 (4099 - 4096) = .int .i64 (.ofNat x1) := by
  show symL (mkVals ds (base a0 a1 x0 x1)) 3 = _
  rw [symL_low ds (base a0 a1 x0 x1) 3 (by simp)]
  rfl
set_option maxRecDepth 100000 in
theorem tab0_all (a0 : Int) (a1 : Int) (x1 : Nat) : allB 90 (fun i0 => tabB (G a0 a1 (10 + i0) x1) tab0 0) = true := by kernel_rfl
theorem tab0_ok (a0 : Int) (a1 : Int) (x0 : Nat) (x1 : Nat) (h0 : 10 ≤ x0 ∧ x0 < 100) (h1 : 601 ≤ x1 ∧ x1 < 900) : TabOk (G a0 a1 x0 x1) tab0 := by
  have h := (allB_spec (tab0_all a0 a1 x1) (x0 - 10) (by omega))
  rw [show 10 + (x0 - 10) = x0 by omega] at h
  exact tabB_part h
set_option maxRecDepth 100000 in
theorem tab1_all601 (a0 : Int) (a1 : Int) (x0 : Nat) : allB 200 (fun i1 => tabB (G a0 a1 x0 (601 + i1)) tab1 0) = true := by kernel_rfl
set_option maxRecDepth 100000 in
theorem tab1_all801 (a0 : Int) (a1 : Int) (x0 : Nat) : allB 99 (fun i1 => tabB (G a0 a1 x0 (801 + i1)) tab1 0) = true := by kernel_rfl
theorem tab1_ok (a0 : Int) (a1 : Int) (x0 : Nat) (x1 : Nat) (h0 : 10 ≤ x0 ∧ x0 < 100) (h1 : 601 ≤ x1 ∧ x1 < 900) : TabOk (G a0 a1 x0 x1) tab1 := by
  by_cases hc601 : x1 < 801
  · have h := (allB_spec (tab1_all601 a0 a1 x0) (x1 - 601) (by omega))
    rw [show 601 + (x1 - 601) = x1 by omega] at h
    exact tabB_part h
  by_cases hc801 : x1 < 900
  · have h := (allB_spec (tab1_all801 a0 a1 x0) (x1 - 801) (by omega))
    rw [show 801 + (x1 - 801) = x1 by omega] at h
    exact tabB_part h
  · omega
theorem kinv (a0 : Int) (a1 : Int) (x0 : Nat) (x1 : Nat) (h0 : 10 ≤ x0 ∧ x0 < 100) (h1 : 601 ≤ x1 ∧ x1 < 900) (w0 : -9223372036854775808 ≤ a0 ∧ a0 ≤ 9223372036854775807) (w1 : -9223372036854775808 ≤ a1 ∧ a1 ≤ 9223372036854775807) : KInv (symL (base a0 a1 x0 x1)) [some .i64, some .i64, some .i64, some .i64] := by
  intro i k hi
  match i, hi with
  | 0, hi => cases hi; exact ⟨a0, rfl, by rw [inK_iff]; exact w0⟩
  | 1, hi => cases hi; exact ⟨a1, rfl, by rw [inK_iff]; exact w1⟩
  | 2, hi => cases hi; exact ⟨.ofNat x0, rfl, by rw [inK_iff]; show (-9223372036854775808 : Int) ≤ (x0 : Int) ∧ (x0 : Int) ≤ 9223372036854775807; omega⟩
  | 3, hi => cases hi; exact ⟨.ofNat x1, rfl, by rw [inK_iff]; show (-9223372036854775808 : Int) ≤ (x1 : Int) ∧ (x1 : Int) ≤ 9223372036854775807; omega⟩
  | n + 4, hi => cases hi
theorem named_ok (a0 : Int) (a1 : Int) (x0 : Nat) (x1 : Nat) (i : Nat) : named (G a0 a1 x0 x1 i) := symL_named' (mkVals_named (by intro v hv; simp only [base, List.mem_cons, List.not_mem_nil, or_false] at hv; rcases hv with rfl | rfl | rfl | rfl <;> trivial) nam_ok) i
theorem names_ok (a0 : Int) (a1 : Int) (x0 : Nat) (x1 : Nat) (h0 : 10 ≤ x0 ∧ x0 < 100) (h1 : 601 ≤ x1 ∧ x1 < 900) (w0 : -9223372036854775808 ≤ a0 ∧ a0 ≤ 9223372036854775807) (w1 : -9223372036854775808 ≤ a1 ∧ a1 ≤ 9223372036854775807) : NamesOk (G a0 a1 x0 x1) (Names.ofL tab) := namesOk_parts (named_ok a0 a1 x0 x1) len_ok (TabOk.union (symTab_part (l := base a0 a1 x0 x1) rfl (kinv a0 a1 x0 x1 h0 h1 w0 w1) refs_ok sym_ok) (TabOk.union (tab0_ok a0 a1 x0 x1 h0 h1 ) (tab1_ok a0 a1 x0 x1 h0 h1 )))
theorem crc_ok (a0 : Int) (a1 : Int) (x0 : Nat) (x1 : Nat) : CrcOk (G a0 a1 x0 x1) crcs := crcsB_ok (l := base a0 a1 x0 x1) refs_ok crcs_ok
noncomputable def pargs0 : List Value := [cn 4098]
noncomputable def pres0 : Value := cn 4102
noncomputable def pargs1 : List Value := [cn 4098]
noncomputable def pres1 : Value := cn 4102
end Go.Proofs.YtemmgompegkgkaaGreatDoor.toplasts.d2w3f
namespace Go.Proofs.YtemmgompegkgkaaGreatDoor.toplasts.d3w0f
open Go Vai
set_option linter.unusedVariables false
set_option linter.unusedSimpArgs false
noncomputable def ds : List NDef := [.idx .u8 (cn 4098) 100 z0w3,
  .idx .u8 (cn 4098) 100 z0w4,
  .idx .u8 (cn 4098) 100 z0w5,
  .str [cn 4099, cn 4100, cn 4101],
  .str [bn 49, bn 48, bn 46, bn 48, bn 46, bn 48, bn 46, cn 4099, cn 4100, cn 4101],
  .str [bn 49, bn 48, bn 46, bn 48, bn 46, bn 48, bn 46, cn 4099, cn 4100, cn 4101, bn 32, bn 104, bn 10],
  .str [bn 49, bn 48, bn 46, bn 48, bn 46, bn 48, bn 46, cn 4099, cn 4100, cn 4101, bn 32, bn 104],
  .ent 34 (cn 4099) (bn 0),
  .ent 34 (cn 4100) (bn 0),
  .ent 34 (cn 4101) (bn 0),
  .str [bn 48, bn 46, bn 48, bn 46, cn 4099, cn 4100, cn 4101],
  .str [bn 48, bn 46, cn 4099, cn 4100, cn 4101],
  .ent 1 (cn 4099) (bn 48),
  .ent 39 (cn 4111) (bn 0),
  .ent 1 (cn 4100) (bn 48),
  .ent 2 (cn 4112) (.int .u64 (.ofNat 10)),
  .ent 39 (cn 4113) (bn 0),
  .ent 0 (cn 4114) (cn 4115),
  .ent 1 (cn 4101) (bn 48),
  .ent 2 (cn 4116) (.int .u64 (.ofNat 10)),
  .ent 39 (cn 4117) (bn 0),
  .ent 0 (cn 4118) (cn 4119),
  .idx .i64 (cn 4098) 100 z0w6,
  .ent 2 (cn 4121) (jn 78913),
  .ent 38 (cn 4120) (bn 0),
  .ent 4 (cn 4123) (.int .u32 (.ofNat 100)),
  .ent 2 (cn 4124) (.int .u32 (.ofNat 2)),
  .ent 3 (cn 4123) (.int .u32 (.ofNat 100)),
  .ent 0 (cn 4125) (.int .u32 (.ofNat 1)),
  .ent 0 (.int .u32 (.ofNat 48)) (cn 4126),
  .ent 36 (cn 4120) (bn 0),
  .str [bn 10, bn 0, bn 0, cn 4129],
  .str [bn 0, bn 0, bn 0, bn 0, bn 0, bn 0, bn 0, bn 0, bn 0, bn 0, bn 255, bn 255, bn 10, bn 0, bn 0, cn 4129],
  .crc z0w11,
  .ent 39 (cn 4132) (bn 0),
  .ent 9 (cn 4133) (jn 0),
  .ent 36 (cn 4134) (bn 0),
  .ent 9 (cn 4133) (jn 8),
  .ent 36 (cn 4136) (bn 0),
  .ent 9 (cn 4133) (jn 16),
  .ent 36 (cn 4138) (bn 0),
  .ent 9 (cn 4133) (jn 24),
  .ent 36 (cn 4140) (bn 0),
  .ent 39 (cn 4135) (bn 0),
  .ent 8 (cn 4142) (jn 0),
  .ent 6 (.int .u64 (.ofNat 0)) (cn 4143),
  .ent 39 (cn 4137) (bn 0),
  .ent 8 (cn 4145) (jn 8),
  .ent 6 (cn 4144) (cn 4146),
  .ent 39 (cn 4139) (bn 0),
  .ent 8 (cn 4148) (jn 16),
  .ent 6 (cn 4147) (cn 4149),
  .ent 39 (cn 4141) (bn 0),
  .ent 8 (cn 4151) (jn 24),
  .ent 6 (cn 4150) (cn 4152)]
noncomputable def tabS : List NInfo := [z0,
  z0,
  z0,
  ⟨none, none, [⟨34, cn 4099, bn 0, cn 4106⟩, ⟨1, cn 4099, bn 48, cn 4111⟩]⟩,
  ⟨none, none, [⟨34, cn 4100, bn 0, cn 4107⟩, ⟨1, cn 4100, bn 48, cn 4113⟩]⟩,
  ⟨none, none, [⟨34, cn 4101, bn 0, cn 4108⟩, ⟨1, cn 4101, bn 48, cn 4117⟩]⟩,
  ⟨none, some [cn 4099, cn 4100, cn 4101], []⟩,
  ⟨none, some [bn 49, bn 48, bn 46, bn 48, bn 46, bn 48, bn 46, cn 4099, cn 4100, cn 4101], []⟩,
  ⟨none, some [bn 49, bn 48, bn 46, bn 48, bn 46, bn 48, bn 46, cn 4099, cn 4100, cn 4101, bn 32, bn 104, bn 10], []⟩,
  ⟨none, some [bn 49, bn 48, bn 46, bn 48, bn 46, bn 48, bn 46, cn 4099, cn 4100, cn 4101, bn 32, bn 104], []⟩,
  z0,
  z0,
  z0,
  ⟨none, some [bn 48, bn 46, bn 48, bn 46, cn 4099, cn 4100, cn 4101], []⟩,
  ⟨none, some [bn 48, bn 46, cn 4099, cn 4100, cn 4101], []⟩,
  ⟨none, none, [⟨39, cn 4111, bn 0, cn 4112⟩]⟩,
  ⟨none, none, [⟨2, cn 4112, .int .u64 (.ofNat 10), cn 4114⟩]⟩,
  ⟨none, none, [⟨39, cn 4113, bn 0, cn 4115⟩]⟩,
  ⟨none, none, [⟨0, cn 4114, cn 4115, cn 4116⟩]⟩,
  z0,
  ⟨none, none, [⟨2, cn 4116, .int .u64 (.ofNat 10), cn 4118⟩]⟩,
  ⟨none, none, [⟨39, cn 4117, bn 0, cn 4119⟩]⟩,
  ⟨none, none, [⟨0, cn 4118, cn 4119, cn 4120⟩]⟩,
  z0,
  ⟨none, none, [⟨38, cn 4120, bn 0, cn 4123⟩, ⟨36, cn 4120, bn 0, cn 4129⟩]⟩,
  ⟨none, none, [⟨2, cn 4121, jn 78913, cn 4122⟩]⟩,
  z0,
  ⟨none, none, [⟨4, cn 4123, .int .u32 (.ofNat 100), cn 4124⟩, ⟨3, cn 4123, .int .u32 (.ofNat 100), cn 4126⟩]⟩,
  ⟨none, none, [⟨2, cn 4124, .int .u32 (.ofNat 2), cn 4125⟩]⟩,
  ⟨none, none, [⟨0, cn 4125, .int .u32 (.ofNat 1), cn 4127⟩]⟩,
  ⟨none, none, [⟨0, .int .u32 (.ofNat 48), cn 4126, cn 4128⟩]⟩,
  z0,
  z0,
  z0,
  ⟨none, some [bn 10, bn 0, bn 0, cn 4129], []⟩,
  ⟨none, some [bn 0, bn 0, bn 0, bn 0, bn 0, bn 0, bn 0, bn 0, bn 0, bn 0, bn 255, bn 255, bn 10, bn 0, bn 0, cn 4129], []⟩,
  ⟨some (.u32, (.ofNat 0), (.ofNat 4294967295)), none, [⟨39, cn 4132, bn 0, cn 4133⟩]⟩,
  ⟨some (.u64, (.ofNat 0), (.ofNat 18446744073709551615)), none, [⟨9, cn 4133, jn 0, cn 4134⟩, ⟨9, cn 4133, jn 8, cn 4136⟩, ⟨9, cn 4133, jn 16, cn 4138⟩, ⟨9, cn 4133, jn 24, cn 4140⟩]⟩,
  ⟨some (.u64, (.ofNat 0), (.ofNat 18446744073709551615)), none, [⟨36, cn 4134, bn 0, cn 4135⟩]⟩,
  ⟨some (.u8, (.ofNat 0), (.ofNat 255)), none, [⟨39, cn 4135, bn 0, cn 4142⟩]⟩,
  ⟨some (.u64, (.ofNat 0), (.ofNat 18446744073709551615)), none, [⟨36, cn 4136, bn 0, cn 4137⟩]⟩,
  ⟨some (.u8, (.ofNat 0), (.ofNat 255)), none, [⟨39, cn 4137, bn 0, cn 4145⟩]⟩,
  ⟨some (.u64, (.ofNat 0), (.ofNat 18446744073709551615)), none, [⟨36, cn 4138, bn 0, cn 4139⟩]⟩,
  ⟨some (.u8, (.ofNat 0), (.ofNat 255)), none, [⟨39, cn 4139, bn 0, cn 4148⟩]⟩,
  ⟨some (.u64, (.ofNat 0), (.ofNat 18446744073709551615)), none, [⟨36, cn 4140, bn 0, cn 4141⟩]⟩,
  ⟨some (.u8, (.ofNat 0), (.ofNat 255)), none, [⟨39, cn 4141, bn 0, cn 4151⟩]⟩,
  ⟨some (.u64, (.ofNat 0), (.ofNat 18446744073709551615)), none, [⟨8, cn 4142, jn 0, cn 4143⟩]⟩,
  ⟨some (.u64, (.ofNat 0), (.ofNat 18446744073709551615)), none, [⟨6, .int .u64 (.ofNat 0), cn 4143, cn 4144⟩]⟩,
  ⟨some (.u64, (.ofNat 0), (.ofNat 18446744073709551615)), none, [⟨6, cn 4144, cn 4146, cn 4147⟩]⟩,
  ⟨some (.u64, (.ofNat 0), (.ofNat 18446744073709551615)), none, [⟨8, cn 4145, jn 8, cn 4146⟩]⟩,
  ⟨some (.u64, (.ofNat 0), (.ofNat 18446744073709551615)), none, []⟩,
  ⟨some (.u64, (.ofNat 0), (.ofNat 18446744073709551615)), none, [⟨6, cn 4147, cn 4149, cn 4150⟩]⟩,
  ⟨some (.u64, (.ofNat 0), (.ofNat 18446744073709551615)), none, [⟨8, cn 4148, jn 16, cn 4149⟩]⟩,
  ⟨some (.u64, (.ofNat 0), (.ofNat 18446744073709551615)), none, []⟩,
  ⟨some (.u64, (.ofNat 0), (.ofNat 18446744073709551615)), none, [⟨6, cn 4150, cn 4152, cn 4153⟩]⟩,
  ⟨some (.u64, (.ofNat 0), (.ofNat 18446744073709551615)), none, [⟨8, cn 4151, jn 24, cn 4152⟩]⟩,
  ⟨some (.u64, (.ofNat 0), (.ofNat 18446744073709551615)), none, []⟩,
  ⟨some (.u64, (.ofNat 0), (.ofNat 18446744073709551615)), none, []⟩]
noncomputable def tab0 : List NInfo := [z0,
  z0,
  ⟨some (.i64, (.ofNat 100), (.ofNat 249)), none, []⟩,
  ⟨some (.u8, (.ofNat 49), (.ofNat 50)), none, []⟩,
  ⟨some (.u8, (.ofNat 48), (.ofNat 57)), none, []⟩,
  ⟨some (.u8, (.ofNat 48), (.ofNat 57)), none, []⟩,
  z0,
  z0,
  z0,
  z0,
  ⟨some (.i32, (.ofNat 49), (.ofNat 50)), none, []⟩,
  ⟨some (.i32, (.ofNat 48), (.ofNat 57)), none, []⟩,
  ⟨some (.i32, (.ofNat 48), (.ofNat 57)), none, []⟩,
  z0,
  z0,
  ⟨some (.u8, (.ofNat 1), (.ofNat 2)), none, []⟩,
  ⟨some (.u64, (.ofNat 1), (.ofNat 2)), none, [⟨0, .int .u64 (.ofNat 0), cn 4112, cn 4112⟩]⟩,
  ⟨some (.u8, (.ofNat 0), (.ofNat 9)), none, []⟩,
  ⟨some (.u64, (.ofNat 10), (.ofNat 20)), none, []⟩,
  ⟨some (.u64, (.ofNat 0), (.ofNat 9)), none, []⟩,
  ⟨some (.u64, (.ofNat 10), (.ofNat 24)), none, [⟨13, cn 4116, cn 4114, .bool false⟩]⟩,
  ⟨some (.u8, (.ofNat 0), (.ofNat 9)), none, []⟩,
  ⟨some (.u64, (.ofNat 100), (.ofNat 240)), none, []⟩,
  ⟨some (.u64, (.ofNat 0), (.ofNat 9)), none, []⟩,
  ⟨some (.u64, (.ofNat 100), (.ofNat 249)), none, [⟨13, cn 4120, cn 4118, .bool false⟩]⟩,
  ⟨some (.i64, (.ofNat 7), (.ofNat 8)), none, []⟩,
  ⟨some (.i64, (.ofNat 552391), (.ofNat 631304)), none, [⟨9, cn 4122, .int .u64 (.ofNat 18), jn 2⟩]⟩,
  ⟨some (.u32, (.ofNat 100), (.ofNat 249)), none, []⟩,
  ⟨some (.u32, (.ofNat 0), (.ofNat 99)), none, []⟩,
  ⟨some (.u32, (.ofNat 0), (.ofNat 198)), none, [⟨70, cn 4125, z0w0, cn 4100⟩]⟩,
  ⟨some (.u32, (.ofNat 1), (.ofNat 2)), none, []⟩,
  ⟨some (.u32, (.ofNat 1), (.ofNat 199)), none, [⟨70, cn 4127, z0w0, cn 4101⟩]⟩,
  ⟨some (.u32, (.ofNat 49), (.ofNat 50)), none, [⟨36, cn 4128, bn 0, cn 4099⟩]⟩,
  ⟨some (.u8, (.ofNat 100), (.ofNat 249)), none, []⟩,
  z0,
  z0,
  z0,
  z0,
  z0,
  z0,
  z0,
  z0,
  z0,
  z0,
  z0,
  z0,
  z0,
  z0,
  z0,
  z0,
  z0,
  z0,
  z0,
  z0,
  z0,
  z0,
  z0,
  ⟨none, none, [⟨12, cn 4153, cn 4133, .bool false⟩]⟩]
noncomputable def tab : List NInfo := (unionT tabS tab0)
noncomputable def crcs : List (List Value × Value) := [(z0w11, cn 4132)]
noncomputable abbrev base (a0 : Int) (a1 : Int) (x0 : Nat) : List Value := [.int .i64 a0, .int .i64 a1, .int .i64 (.ofNat x0)]
noncomputable abbrev G (a0 : Int) (a1 : Int) (x0 : Nat) : Sym := symL (mkVals ds (base a0 a1 x0))
set_option maxRecDepth 100000 in
theorem refs_ok : refsAll ds 3 = true := by kernel_rfl
set_option maxRecDepth 100000 in
theorem nam_ok : namDs ds = true := by kernel_rfl
set_option maxRecDepth 100000 in
theorem len_ok : Nat.ble tab.length 4096 = true := by kernel_rfl
set_option maxRecDepth 100000 in
theorem crcs_ok : crcsB ds 3 crcs = true := by kernel_rfl
set_option maxRecDepth 100000 in
theorem sym_ok : symTab (ksOf ds [some .i64, some .i64, some .i64]) ds 3 tabS 0 = true := by kernel_rfl
theorem gb0 (a0 : Int) (a1 : Int) (x0 : Nat) : G a0 a1 x0 (4096 - 4096) = .int .i64 a0 := by
  show symL (mkVals ds (base a0 a1 x0)) 0 = _
  rw [symL_low ds (base a0 a1 x0) 0 (by simp)]
  rfl
theorem gb1 (a0 : Int) (a1 : Int) (x0 : Nat) : G a0 a1 x0 (4097 - 4096) = .int .i64 a1 := by
  show symL (mkVals ds (base a0 a1 x0)) 1 = _
  rw [symL_low ds (base a0 a1 x0) 1 (by simp)]
  rfl
theorem gb2 (a0 : Int) (a1 : Int) (x0 : Nat) : G a0 a1 x0 (4098 - 4096) = .int .i64 (.ofNat x0) := by
  show symL (mkVals ds (base a0 a1 x0)) 2 = _
  rw [symL_low ds (base a0 a1 x0) 2 (by simp)]
  rfl
set_option maxRecDepth 100000 in
theorem tab0_all (a0 : Int) (a1 : Int) : allB 150 (fun i0 => tabB (G a0 a1 (100 + i0)) tab0 0) = true := by kernel_rfl
theorem tab0_ok (a0 : Int) (a1 : Int) (x0 : Nat) (h0 : 100 ≤ x0 ∧ x0 < 250) : TabOk (G a0 a1 x0) tab0 := by
  have h := (allB_spec (tab0_all a0 a1 ) (x0 - 100) (by omega))
  rw [show 100 + (x0 - 100) = x0 by omega] at h
  exact tabB_part h
theorem kinv (a0 : Int) (a1 : Int) (x0 : Nat) (h0 : 100 ≤ x0 ∧ x0 < 250) (w0 : -9223372036854775808 ≤ a0 ∧ a0 ≤ 9223372036854775807) (w1 : -9223372036854775808 ≤ a1 ∧ a1 ≤ 9223372036854775807) : KInv (symL (base a0 a1 x0)) [some .i64, some .i64, some .i64] := by
  intro i k hi
  match i, hi with
  | 0, hi => cases hi; exact ⟨a0, rfl, by rw [inK_iff]; exact w0⟩
  | 1, hi => cases hi; exact ⟨a1, rfl, by rw [inK_iff]; exact w1⟩
  | 2, hi => cases hi; exact ⟨.ofNat x0, rfl, by rw [inK_iff]; show (-9223372036854775808 : Int) ≤ (x0 : Int) ∧ (x0 : Int) ≤ 9223372036854775807; omega⟩
  | n + 3, hi => cases hi
theorem named_ok (a0 : Int) (a1 : Int) (x0 : Nat) (i : Nat) : named (G a0 a1 x0 i) := symL_named' (mkVals_named (by intro v hv; simp only [base, List.mem_cons, List.not_mem_nil, or_false] at hv; rcases hv with rfl | rfl | rfl <;> trivial) nam_ok) i
theorem names_ok (a0 : Int) (a1 : Int) (x0 : Nat) (h0 : 100 ≤ x0 ∧ x0 < 250) (w0 : -9223372036854775808 ≤ a0 ∧ a0 ≤ 9223372036854775807) (w1 : -9223372036854775808 ≤ a1 ∧ a1 ≤ 9223372036854775807) : NamesOk (G a0 a1 x0) (Names.ofL tab) := namesOk_parts (named_ok a0 a1 x0) len_ok (TabOk.union (symTab_part (l := base a0 a1 x0) rfl (kinv a0 a1 x0 h0 w0 w1) refs_ok sym_ok) (tab0_ok a0 a1 x0 h0 ))
theorem crc_ok (a0 : Int) (a1 : Int) (x0 : Nat) : CrcOk (G a0 a1 x0) crcs := crcsB_ok (l := base a0 a1 x0) refs_ok crcs_ok
noncomputable def pargs0 : List Value := [cn 4098]
noncomputable def pres0 : Value := cn 4102
noncomputable def pargs1 : List Value := [cn 4120]
noncomputable def pres1 : Value := cn 4121
end Go.Proofs.YtemmgompegkgkaaGreatDoor.toplasts.d3w0f
namespace Go.Proofs.YtemmgompegkgkaaGreatDoor.toplasts.d3w1f
open Go Vai
set_option linter.unusedVariables false
set_option linter.unusedSimpArgs false
noncomputable def ds : List NDef := [.idx .u8 (cn 4098) 100 z0w3,
  .idx .u8 (cn 4098) 100 z0w4,
  .idx .u8 (cn 4098) 100 z0w5,
  .str [cn 4100, cn 4101, cn 4102],
  .str [bn 49, bn 48, bn 46, bn 48, bn 46, bn 48, bn 46, cn 4100, cn 4101, cn 4102],
  .str [bn 49, bn 48, bn 46, bn 48, bn 46, bn 48, bn 46, cn 4100, cn 4101, cn 4102, bn 32, bn 104, bn 10],
  .str [bn 49, bn 48, bn 46, bn 48, bn 46, bn 48, bn 46, cn 4100, cn 4101, cn 4102, bn 32, bn 104],
  .ent 34 (cn 4100) (bn 0),
  .ent 34 (cn 4101) (bn 0),
  .ent 34 (cn 4102) (bn 0),
  .str [bn 48, bn 46, bn 48, bn 46, cn 4100, cn 4101, cn 4102],
  .str [bn 48, bn 46, cn 4100, cn 4101, cn 4102],
  .ent 1 (cn 4100) (bn 48),
  .ent 39 (cn 4112) (bn 0),
  .ent 1 (cn 4101) (bn 48),
  .ent 2 (cn 4113) (.int .u64 (.ofNat 10)),
  .ent 39 (cn 4114) (bn 0),
  .ent 0 (cn 4115) (cn 4116),
  .ent 1 (cn 4102) (bn 48),
  .ent 2 (cn 4117) (.int .u64 (.ofNat 10)),
  .ent 39 (cn 4118) (bn 0),
  .ent 0 (cn 4119) (cn 4120),
  .idx .i64 (cn 4098) 100 z0w6,
  .ent 2 (cn 4122) (jn 78913),
  .ent 38 (cn 4121) (bn 0),
  .ent 4 (cn 4124) (.int .u32 (.ofNat 100)),
  .ent 2 (cn 4125) (.int .u32 (.ofNat 2)),
  .ent 3 (cn 4124) (.int .u32 (.ofNat 100)),
  .ent 0 (cn 4126) (.int .u32 (.ofNat 1)),
  .ent 0 (.int .u32 (.ofNat 48)) (cn 4127),
  .ent 36 (cn 4121) (bn 0),
  .str [bn 10, bn 0, bn 0, cn 4130],
  .str [bn 0, bn 0, bn 0, bn 0, bn 0, bn 0, bn 0, bn 0, bn 0, bn 0, bn 255, bn 255, bn 10, bn 0, bn 0, cn 4130],
  .crc z0w12,
  .ent 39 (cn 4133) (bn 0),
  .ent 9 (cn 4134) (jn 0),
  .ent 36 (cn 4135) (bn 0),
  .ent 9 (cn 4134) (jn 8),
  .ent 36 (cn 4137) (bn 0),
  .ent 9 (cn 4134) (jn 16),
  .ent 36 (cn 4139) (bn 0),
  .ent 9 (cn 4134) (jn 24),
  .ent 36 (cn 4141) (bn 0),
  .ent 39 (cn 4136) (bn 0),
  .ent 8 (cn 4143) (jn 0),
  .ent 6 (.int .u64 (.ofNat 0)) (cn 4144),
  .ent 39 (cn 4138) (bn 0),
  .ent 8 (cn 4146) (jn 8),
  .ent 6 (cn 4145) (cn 4147),
  .ent 39 (cn 4140) (bn 0),
  .ent 8 (cn 4149) (jn 16),
  .ent 6 (cn 4148) (cn 4150),
  .ent 39 (cn 4142) (bn 0),
  .ent 8 (cn 4152) (jn 24),
  .ent 6 (cn 4151) (cn 4153)]
noncomputable def tabS : List NInfo := [z0,
  z0,
  z0,
  z0,
  ⟨none, none, [⟨34, cn 4100, bn 0, cn 4107⟩, ⟨1, cn 4100, bn 48, cn 4112⟩]⟩,
  ⟨none, none, [⟨34, cn 4101, bn 0, cn 4108⟩, ⟨1, cn 4101, bn 48, cn 4114⟩]⟩,
  ⟨none, none, [⟨34, cn 4102, bn 0, cn 4109⟩, ⟨1, cn 4102, bn 48, cn 4118⟩]⟩,
  ⟨none, some [cn 4100, cn 4101, cn 4102], []⟩,
  ⟨none, some [bn 49, bn 48, bn 46, bn 48, bn 46, bn 48, bn 46, cn 4100, cn 4101, cn 4102], []⟩,
  ⟨none, some [bn 49, bn 48, bn 46, bn 48, bn 46, bn 48, bn 46, cn 4100, cn 4101, cn 4102, bn 32, bn 104, bn 10], []⟩,
  ⟨none, some [bn 49, bn 48, bn 46, bn 48, bn 46, bn 48, bn 46, cn 4100, cn 4101, cn 4102, bn 32, bn 104], []⟩,
  z0,
  z0,
  z0,
  ⟨none, some [bn 48, bn 46, bn 48, bn 46, cn 4100, cn 4101, cn 4102], []⟩,
  ⟨none, some [bn 48, bn 46, cn 4100, cn 4101, cn 4102], []⟩,
  ⟨none, none, [⟨39, cn 4112, bn 0, cn 4113⟩]⟩,
  ⟨none, none, [⟨2, cn 4113, .int .u64 (.ofNat 10), cn 4115⟩]⟩,
  ⟨none, none, [⟨39, cn 4114, bn 0, cn 4116⟩]⟩,
  ⟨none, none, [⟨0, cn 4115, cn 4116, cn 4117⟩]⟩,
  z0,
  ⟨none, none, [⟨2, cn 4117, .int .u64 (.ofNat 10), cn 4119⟩]⟩,
  ⟨none, none, [⟨39, cn 4118, bn 0, cn 4120⟩]⟩,
  ⟨none, none, [⟨0, cn 4119, cn 4120, cn 4121⟩]⟩,
  z0,
  ⟨none, none, [⟨38, cn 4121, bn 0, cn 4124⟩, ⟨36, cn 4121, bn 0, cn 4130⟩]⟩,
  ⟨none, none, [⟨2, cn 4122, jn 78913, cn 4123⟩]⟩,
  z0,
  ⟨none, none, [⟨4, cn 4124, .int .u32 (.ofNat 100), cn 4125⟩, ⟨3, cn 4124, .int .u32 (.ofNat 100), cn 4127⟩]⟩,
  ⟨none, none, [⟨2, cn 4125, .int .u32 (.ofNat 2), cn 4126⟩]⟩,
  ⟨none, none, [⟨0, cn 4126, .int .u32 (.ofNat 1), cn 4128⟩]⟩,
  ⟨none, none, [⟨0, .int .u32 (.ofNat 48), cn 4127, cn 4129⟩]⟩,
  z0,
  z0,
  z0,
  ⟨none, some [bn 10, bn 0, bn 0, cn 4130], []⟩,
  ⟨none, some [bn 0, bn 0, bn 0, bn 0, bn 0, bn 0, bn 0, bn 0, bn 0, bn 0, bn 255, bn 255, bn 10, bn 0, bn 0, cn 4130], []⟩,
  ⟨some (.u32, (.ofNat 0), (.ofNat 4294967295)), none, [⟨39, cn 4133, bn 0, cn 4134⟩]⟩,
  ⟨some (.u64, (.ofNat 0), (.ofNat 18446744073709551615)), none, [⟨9, cn 4134, jn 0, cn 4135⟩, ⟨9, cn 4134, jn 8, cn 4137⟩, ⟨9, cn 4134, jn 16, cn 4139⟩, ⟨9, cn 4134, jn 24, cn 4141⟩]⟩,
  ⟨some (.u64, (.ofNat 0), (.ofNat 18446744073709551615)), none, [⟨36, cn 4135, bn 0, cn 4136⟩]⟩,
  ⟨some (.u8, (.ofNat 0), (.ofNat 255)), none, [⟨39, cn 4136, bn 0, cn 4143⟩]⟩,
  ⟨some (.u64, (.ofNat 0), (.ofNat 18446744073709551615)), none, [⟨36, cn 4137, bn 0, cn 4138⟩]⟩,
  ⟨some (.u8, (.ofNat 0), (.ofNat 255)), none, [⟨39, cn 4138, bn 0, cn 4146⟩]⟩,
  ⟨some (.u64, (.ofNat 0), (.ofNat 18446744073709551615)), none, [⟨36, cn 4139, bn 0, cn 4140⟩]⟩,
  ⟨some (.u8, (.ofNat 0), (.ofNat 255)), none, [⟨39, cn 4140, bn 0, cn 4149⟩]⟩,
  ⟨some (.u64, (.ofNat 0), (.ofNat 18446744073709551615)), none, [⟨36, cn 4141, bn 0, cn 4142⟩]⟩,
  ⟨some (.u8, (.ofNat 0), (.ofNat 255)), none, [⟨39, cn 4142, bn 0, cn 4152⟩]⟩,
  ⟨some (.u64, (.ofNat 0), (.ofNat 18446744073709551615)), none, [⟨8, cn 4143, jn 0, cn 4144⟩]⟩,
  ⟨some (.u64, (.ofNat 0), (.ofNat 18446744073709551615)), none, [⟨6, .int .u64 (.ofNat 0), cn 4144, cn 4145⟩]⟩,
  ⟨some (.u64, (.ofNat 0), (.ofNat 18446744073709551615)), none, [⟨6, cn 4145, cn 4147, cn 4148⟩]⟩,
  ⟨some (.u64, (.ofNat 0), (.ofNat 18446744073709551615)), none, [⟨8, cn 4146, jn 8, cn 4147⟩]⟩,
  ⟨some (.u64, (.ofNat 0), (.ofNat 18446744073709551615)), none, []⟩,
  ⟨some (.u64, (.ofNat 0), (.ofNat 18446744073709551615)), none, [⟨6, cn 4148, cn 4150, cn 4151⟩]⟩,
  ⟨some (.u64, (.ofNat 0), (.ofNat 18446744073709551615)), none, [⟨8, cn 4149, jn 16, cn 4150⟩]⟩,
  ⟨some (.u64, (.ofNat 0), (.ofNat 18446744073709551615)), none, []⟩,
  ⟨some (.u64, (.ofNat 0), (.ofNat 18446744073709551615)), none, [⟨6, cn 4151, cn 4153, cn 4154⟩]⟩,
  ⟨some (.u64, (.ofNat 0), (.ofNat 18446744073709551615)), none, [⟨8, cn 4152, jn 24, cn 4153⟩]⟩,
  ⟨some (.u64, (.ofNat 0), (.ofNat 18446744073709551615)), none, []⟩,
  ⟨some (.u64, (.ofNat 0), (.ofNat 18446744073709551615)), none, []⟩]
noncomputable def tab0 : List NInfo := [z0,
  z0,
  ⟨some (.i64, (.ofNat 100), (.ofNat 249)), none, []⟩,
  z0,
  ⟨some (.u8, (.ofNat 49), (.ofNat 50)), none, []⟩,
  ⟨some (.u8, (.ofNat 48), (.ofNat 57)), none, []⟩,
  ⟨some (.u8, (.ofNat 48), (.ofNat 57)), none, []⟩,
  z0,
  z0,
  z0,
  z0,
  ⟨some (.i32, (.ofNat 49), (.ofNat 50)), none, []⟩,
  ⟨some (.i32, (.ofNat 48), (.ofNat 57)), none, []⟩,
  ⟨some (.i32, (.ofNat 48), (.ofNat 57)), none, []⟩,
  z0,
  z0,
  ⟨some (.u8, (.ofNat 1), (.ofNat 2)), none, []⟩,
  ⟨some (.u64, (.ofNat 1), (.ofNat 2)), none, [⟨0, .int .u64 (.ofNat 0), cn 4113, cn 4113⟩]⟩,
  ⟨some (.u8, (.ofNat 0), (.ofNat 9)), none, []⟩,
  ⟨some (.u64, (.ofNat 10), (.ofNat 20)), none, []⟩,
  ⟨some (.u64, (.ofNat 0), (.ofNat 9)), none, []⟩,
  ⟨some (.u64, (.ofNat 10), (.ofNat 24)), none, [⟨13, cn 4117, cn 4115, .bool false⟩]⟩,
  ⟨some (.u8, (.ofNat 0), (.ofNat 9)), none, []⟩,
  ⟨some (.u64, (.ofNat 100), (.ofNat 240)), none, []⟩,
  ⟨some (.u64, (.ofNat 0), (.ofNat 9)), none, []⟩,
  ⟨some (.u64, (.ofNat 100), (.ofNat 249)), none, [⟨13, cn 4121, cn 4119, .bool false⟩]⟩,
  ⟨some (.i64, (.ofNat 7), (.ofNat 8)), none, []⟩,
  ⟨some (.i64, (.ofNat 552391), (.ofNat 631304)), none, [⟨9, cn 4123, .int .u64 (.ofNat 18), jn 2⟩]⟩,
  ⟨some (.u32, (.ofNat 100), (.ofNat 249)), none, []⟩,
  ⟨some (.u32, (.ofNat 0), (.ofNat 99)), none, []⟩,
  ⟨some (.u32, (.ofNat 0), (.ofNat 198)), none, [⟨70, cn 4126, z0w0, cn 4101⟩]⟩,
  ⟨some (.u32, (.ofNat 1), (.ofNat 2)), none, []⟩,
  ⟨some (.u32, (.ofNat 1), (.ofNat 199)), none, [⟨70, cn 4128, z0w0, cn 4102⟩]⟩,
  ⟨some (.u32, (.ofNat 49), (.ofNat 50)), none, [⟨36, cn 4129, bn 0, cn 4100⟩]⟩,
  ⟨some (.u8, (.ofNat 100), (.ofNat 249)), none, []⟩,
  z0,
  z0,
  z0,
  z0,
  z0,
  z0,
  z0,
  z0,
  z0,
  z0,
  z0,
  z0,
  z0,
  z0,
  z0,
  z0,
  z0,
  z0,
  z0,
  z0,
  z0,
  z0,
  z0,
  ⟨none, none, [⟨12, cn 4154, cn 4134, .bool false⟩]⟩]
noncomputable def tab1 : List NInfo := [z0,
  z0,
  z0,
  ⟨some (.i64, (.ofNat 1), (.ofNat 599)), none, [⟨0, jn 0, cn 4099, cn 4099⟩]⟩,
  z0,
  z0,
  z0,
  z0,
  z0,
  z0,
  z0,
  z0,
  z0,
  z0,
  z0,
  z0,
  z0,
  z0,
  z0,
  z0,
  z0,
  z0,
  z0,
  z0,
  z0,
  z0,
  z0,
  z0,
  z0,
  z0,
  z0,
  z0,
  z0,
  z0,
  z0,
  z0,
  z0,
  z0,
  z0,
  z0,
  z0,
  z0,
  z0,
  z0,
  z0,
  z0,
  z0,
  z0,
  z0,
  z0,
  z0,
  z0,
  z0,
  z0,
  z0,
  z0,
  z0,
  z0,
  z0]
noncomputable def tab : List NInfo := (unionT tabS (unionT tab0 tab1))
noncomputable def crcs : List (List Value × Value) := [(z0w12, cn 4133)]
noncomputable abbrev base (a0 : Int) (a1 : Int) (x0 : Nat) (x1 : Nat) : List Value := [.int .i64 a0, .int .i64 a1, .int .i64 (.ofNat x0), .int .i64 (.ofNat x1)]
noncomputable abbrev G (a0 : Int) (a1 : Int) (x0 : Nat) (x1 : Nat) : Sym := symL (mkVals ds (base a0 a1 x0 x1))
set_option maxRecDepth 100000 in
theorem refs_ok : refsAll ds 4 = true := by kernel_rfl
set_option maxRecDepth 100000 in
theorem nam_ok : namDs ds = true := by kernel_rfl
set_option maxRecDepth 100000 in
theorem len_ok : Nat.ble tab.length 4096 = true := by kernel_rfl
set_option maxRecDepth 100000 in
theorem crcs_ok : crcsB ds 4 crcs = true := by kernel_rfl
set_option maxRecDepth 100000 in
theorem sym_ok : symTab (ksOf ds [some .i64, some .i64, some .i64, some .i64]) ds 4 tabS 0 = true := by kernel_rfl
theorem gb0 (a0 : Int) (a1 : Int) (x0 : Nat) (x1 : Nat) : G a0 a1 x0 x1 (4096 - 4096) = .int .i64 a0 := by
  show symL (mkVals ds (base a0 a1 x0 x1)) 0 = _
  rw [symL_low ds (base a0 a1 x0 x1) 0 (by simp)]
  rfl
theorem gb1 (a0 : Int) (a1 : Int) (x0 : Nat) (x1 : Nat) : G a0 a1 x0 x1 (4097 - 4096) = .int .i64 a1 := by
  show symL (mkVals ds (base a0 a1 x0 x1)) 1 = _
  rw [symL_low ds (base a0 a1 x0 x1) 1 (by simp)]
  rfl
theorem gb2 (a0 : Int) (a1 : Int) (x0 : Nat) (x1 : Nat) : G a0 a1 x0 x1 (4098 - 4096) = .int .i64 (.ofNat x0) := by
  show symL (mkVals ds (base a0 a1 x0 x1)) 2 = _
  rw [symL_low ds (base a0 a1 x0 x1) 2 (by simp)]
  rfl
theorem gb3 (a0 : Int) (a1 : Int) (x0 : Nat) (x1 : Nat) : G a0 a1 x0 x1 (4099 - 4096) = .int .i64 (.ofNat x1) := by
  show symL (mkVals ds (base a0 a1 x0 x1)) 3 = _
  rw [symL_low ds (base a0 a1 x0 x1) 3 (by simp)]
  rfl
set_option maxRecDepth 100000 in
theorem tab0_all (a0 : Int) (a1 : Int) (x1 : Nat) : allB 150 (fun i0 => tabB (G a0 a1 (100 + i0) x1) tab0 0) = true := by kernel_rfl
theorem tab0_ok (a0 : Int) (a1 : Int) (x0 : Nat) (x1 : Nat) (h0 : 100 ≤ x0 ∧ x0 < 250) (h1 : 1 ≤ x1 ∧ x1 < 600) : TabOk (G a0 a1 x0 x1) tab0 := by
  have h := (allB_spec (tab0_all a0 a1 x1) (x0 - 100) (by omega))
  rw [show 100 + (x0 - 100) = x0 by omega] at h
  exact tabB_part h
set_option maxRecDepth 100000 in
theorem tab1_all1 (a0 : Int) (a1 : Int) (x0 : Nat) : allB 200 (fun i1 => tabB (G a0 a1 x0 (1 + i1)) tab1 0) = true := by kernel_rfl
set_option maxRecDepth 100000 in
theorem tab1_all201 (a0 : Int) (a1 : Int) (x0 : Nat) : allB 200 (fun i1 => tabB (G a0 a1 x0 (201 + i1)) tab1 0) = true := by kernel_rfl
set_option maxRecDepth 100000 in
theorem tab1_all401 (a0 : Int) (a1 : Int) (x0 : Nat) : allB 199 (fun i1 => tabB (G a0 a1 x0 (401 + i1)) tab1 0) = true := by kernel_rfl
theorem tab1_ok (a0 : Int) (a1 : Int) (x0 : Nat) (x1 : Nat) (h0 : 100 ≤ x0 ∧ x0 < 250) (h1 : 1 ≤ x1 ∧ x1 < 600) : TabOk (G a0 a1 x0 x1) tab1 := by
  by_cases hc1 : x1 < 201
  · have h := (allB_spec (tab1_all1 a0 a1 x0) (x1 - 1) (by omega))
    rw [show 1 + (x1 - 1) = x1 by omega] at h
    exact tabB_part h
  by_cases hc201 : x1 < 401
  · have h := (allB_spec (tab1_all201 a0 a1 x0) (x1 - 201) (by omega))
    rw [show 201 + (x1 - 201) = x1 by omega] at h
    exact tabB_part h
  by_cases hc401 : x1 < 600
  · have h := (allB_spec (tab1_all401 a0 a1 x0) (x1 - 401) (by omega))
    rw [show 401 + (x1 - 401) = x1 by omega] at h
    exact tabB_part h
  · omega
theorem kinv (a0 : Int) (a1 : Int) (x0 : Nat) (x1 : Nat) (h0 : 100 ≤ x0 ∧ x0 < 250) (h1 : 1 ≤ x1 ∧ x1 < 600) (w0 : -9223372036854775808 ≤ a0 ∧ a0 ≤ 9223372036854775807) (w1 : -9223372036854775808 ≤ a1 ∧ a1 ≤ 9223372036854775807) : KInv (symL (base a0 a1 x0 x1)) [some .i64, some .i64, some .i64, some .i64] := by
  intro i k hi
  match i, hi with
  | 0, hi => cases hi; exact ⟨a0, rfl, by rw [inK_iff]; exact w0⟩
  | 1, hi => cases hi; exact ⟨a1, rfl, by rw [inK_iff]; exact w1⟩
  | 2, hi => cases hi; exact ⟨.ofNat x0, rfl, by rw [inK_iff]; show (-9223372036854775808 : Int) ≤ (x0 : Int) ∧ (x0 : Int) ≤ 9223372036854775807; omega⟩
  | 3, hi => cases hi; exact ⟨.ofNat x1, rfl, by rw [inK_iff]; show (-9223372036854775808 : Int) ≤ (x1 : Int) ∧ (x1 : Int) ≤ 9223372036854775807; omega⟩
  | n + 4, hi => cases hi
theorem named_ok (a0 : Int) (a1 : Int) (x0 : Nat) (x1 : Nat) (i : Nat) : named (G a0 a1 x0 x1 i) := symL_named' (mkVals_named (by intro v hv; simp only [base, List.mem_cons, List.not_mem_nil, or_false] at hv; rcases hv with rfl | rfl | rfl | rfl <;> trivial) nam_ok) i
theorem names_ok (a0 : Int) (a1 : Int) (x0 : Nat) (x1 : Nat) (h0 : 100 ≤ x0 ∧ x0 < 250) (h1 : 1 ≤ x1 ∧ x1 < 600) (w0 : -9223372036854775808 ≤ a0 ∧ a0 ≤ 9223372036854775807) (w1 : -9223372036854775808 ≤ a1 ∧ a1 ≤ 9223372036854775807) : NamesOk (G a0 a1 x0 x1) (Names.ofL tab) := namesOk_parts (named_ok a0 a1 x0 x1) len_ok (TabOk.union (symTab_part (l := base a0 a1 x0 x1) rfl (kinv a0 a1 x0 x1 h0 h1 w0 w1) refs_ok sym_ok) (TabOk.union (tab0_ok a0 a1 x0 x1 h0 h1 ) (tab1_ok a0 a1 x0 x1 h0 h1 )))
theorem crc_ok (a0 : Int) (a1 : Int) (x0 : Nat) (x1 : Nat) : CrcOk (G a0 a1 x0 x1) crcs := crcsB_ok (l := base a0 a1 x0 x1) refs_ok crcs_ok
noncomputable def pargs0 : List Value := [cn 4098]
noncomputable def pres0 : Value := cn 4103
noncomputable def pargs1 : List Value := [cn 4121]
noncomputable def pres1 : Value := cn 4122
end Go.Proofs.YtemmgompegkgkaaGreatDoor.toplasts.d3w1f
namespace Go.Proofs.YtemmgompegkgkaaGreatDoor.toplasts.d3w2f
open Go Vai
set_option linter.unusedVariables false
set_option linter.unusedSimpArgs false
noncomputable def ds : List NDef := [.idx .u8 (cn 4098) 100 z0w3,
  .idx .u8 (cn 4098) 100 z0w4,
  .idx .u8 (cn 4098) 100 z0w5,
  .str [cn 4099, cn 4100, cn 4101],
  .str [bn 49, bn 48, bn 46, bn 48, bn 46, bn 48, bn 46, cn 4099, cn 4100, cn 4101],
  .str [bn 49, bn 48, bn 46, bn 48, bn 46, bn 48, bn 46, cn 4099, cn 4100, cn 4101, bn 32, bn 104, bn 10],
  .str [bn 49, bn 48, bn 46, bn 48, bn 46, bn 48, bn 46, cn 4099, cn 4100, cn 4101, bn 32, bn 104],
  .ent 34 (cn 4099) (bn 0),
  .ent 34 (cn 4100) (bn 0),
  .ent 34 (cn 4101) (bn 0),
  .str [bn 48, bn 46, bn 48, bn 46, cn 4099, cn 4100, cn 4101],
  .str [bn 48, bn 46, cn 4099, cn 4100, cn 4101],
  .ent 1 (cn 4099) (bn 48),
  .ent 39 (cn 4111) (bn 0),
  .ent 1 (cn 4100) (bn 48),
  .ent 2 (cn 4112) (.int .u64 (.ofNat 10)),
  .ent 39 (cn 4113) (bn 0),
  .ent 0 (cn 4114) (cn 4115),
  .ent 1 (cn 4101) (bn 48),
  .ent 2 (cn 4116) (.int .u64 (.ofNat 10)),
  .ent 39 (cn 4117) (bn 0),
  .ent 0 (cn 4118) (cn 4119),
  .idx .i64 (cn 4098) 100 z0w6,
  .ent 2 (cn 4121) (jn 78913),
  .ent 38 (cn 4120) (bn 0),
  .ent 4 (cn 4123) (.int .u32 (.ofNat 100)),
  .ent 2 (cn 4124) (.int .u32 (.ofNat 2)),
  .ent 3 (cn 4123) (.int .u32 (.ofNat 100)),
  .ent 0 (cn 4125) (.int .u32 (.ofNat 1)),
  .ent 0 (.int .u32 (.ofNat 48)) (cn 4126),
  .ent 36 (cn 4120) (bn 0),
  .str [bn 10, bn 0, bn 0, cn 4129],
  .str [bn 0, bn 0, bn 0, bn 0, bn 0, bn 0, bn 0, bn 0, bn 0, bn 0, bn 255, bn 255, bn 10, bn 0, bn 0, cn 4129],
  .crc z0w11,
  .ent 39 (cn 4132) (bn 0),
  .ent 9 (cn 4133) (jn 0),
  .ent 36 (cn 4134) (bn 0),
  .ent 9 (cn 4133) (jn 8),
  .ent 36 (cn 4136) (bn 0),
  .ent 9 (cn 4133) (jn 16),
  .ent 36 (cn 4138) (bn 0),
  .ent 9 (cn 4133) (jn 24),
  .ent 36 (cn 4140) (bn 0),
  .ent 39 (cn 4135) (bn 0),
  .ent 8 (cn 4142) (jn 0),
  .ent 6 (.int .u64 (.ofNat 0)) (cn 4143),
  .ent 39 (cn 4137) (bn 0),
  .ent 8 (cn 4145) (jn 8),
  .ent 6 (cn 4144) (cn 4146),
  .ent 39 (cn 4139) (bn 0),
  .ent 8 (cn 4148) (jn 16),
  .ent 6 (cn 4147) (cn 4149),
  .ent 39 (cn 4141) (bn 0),
  .ent 8 (cn 4151) (jn 24),
  .ent 6 (cn 4150) (cn 4152),
  .crc z0w17,
  .ent 39 (cn 4154) (bn 0),
  .ent 9 (cn 4155) (jn 0),
  .ent 36 (cn 4156) (bn 0),
  .ent 9 (cn 4155) (jn 8),
  .ent 36 (cn 4158) (bn 0),
  .ent 9 (cn 4155) (jn 16),
  .ent 36 (cn 4160) (bn 0),
  .ent 9 (cn 4155) (jn 24),
  .ent 36 (cn 4162) (bn 0)]
noncomputable def tabS : List NInfo := [z0,
  z0,
  z0,
  ⟨none, none, [⟨34, cn 4099, bn 0, cn 4106⟩, ⟨1, cn 4099, bn 48, cn 4111⟩]⟩,
  ⟨none, none, [⟨34, cn 4100, bn 0, cn 4107⟩, ⟨1, cn 4100, bn 48, cn 4113⟩]⟩,
  ⟨none, none, [⟨34, cn 4101, bn 0, cn 4108⟩, ⟨1, cn 4101, bn 48, cn 4117⟩]⟩,
  ⟨none, some [cn 4099, cn 4100, cn 4101], []⟩,
  ⟨none, some [bn 49, bn 48, bn 46, bn 48, bn 46, bn 48, bn 46, cn 4099, cn 4100, cn 4101], []⟩,
  ⟨none, some [bn 49, bn 48, bn 46, bn 48, bn 46, bn 48, bn 46, cn 4099, cn 4100, cn 4101, bn 32, bn 104, bn 10], []⟩,
  ⟨none, some [bn 49, bn 48, bn 46, bn 48, bn 46, bn 48, bn 46, cn 4099, cn 4100, cn 4101, bn 32, bn 104], []⟩,
  z0,
  z0,
  z0,
  ⟨none, some [bn 48, bn 46, bn 48, bn 46, cn 4099, cn 4100, cn 4101], []⟩,
  ⟨none, some [bn 48, bn 46, cn 4099, cn 4100, cn 4101], []⟩,
  ⟨none, none, [⟨39, cn 4111, bn 0, cn 4112⟩]⟩,
  ⟨none, none, [⟨2, cn 4112, .int .u64 (.ofNat 10), cn 4114⟩]⟩,
  ⟨none, none, [⟨39, cn 4113, bn 0, cn 4115⟩]⟩,
  ⟨none, none, [⟨0, cn 4114, cn 4115, cn 4116⟩]⟩,
  z0,
  ⟨none, none, [⟨2, cn 4116, .int .u64 (.ofNat 10), cn 4118⟩]⟩,
  ⟨none, none, [⟨39, cn 4117, bn 0, cn 4119⟩]⟩,
  ⟨none, none, [⟨0, cn 4118, cn 4119, cn 4120⟩]⟩,
  z0,
  ⟨none, none, [⟨38, cn 4120, bn 0, cn 4123⟩, ⟨36, cn 4120, bn 0, cn 4129⟩]⟩,
  ⟨none, none, [⟨2, cn 4121, jn 78913, cn 4122⟩]⟩,
  z0,
  ⟨none, none, [⟨4, cn 4123, .int .u32 (.ofNat 100), cn 4124⟩, ⟨3, cn 4123, .int .u32 (.ofNat 100), cn 4126⟩]⟩,
  ⟨none, none, [⟨2, cn 4124, .int .u32 (.ofNat 2), cn 4125⟩]⟩,
  ⟨none, none, [⟨0, cn 4125, .int .u32 (.ofNat 1), cn 4127⟩]⟩,
  ⟨none, none, [⟨0, .int .u32 (.ofNat 48), cn 4126, cn 4128⟩]⟩,
  z0,
  z0,
  z0,
  ⟨none, some [bn 10, bn 0, bn 0, cn 4129], []⟩,
  ⟨none, some [bn 0, bn 0, bn 0, bn 0, bn 0, bn 0, bn 0, bn 0, bn 0, bn 0, bn 255, bn 255, bn 10, bn 0, bn 0, cn 4129], []⟩,
  ⟨some (.u32, (.ofNat 0), (.ofNat 4294967295)), none, [⟨39, cn 4132, bn 0, cn 4133⟩]⟩,
  ⟨some (.u64, (.ofNat 0), (.ofNat 18446744073709551615)), none, [⟨9, cn 4133, jn 0, cn 4134⟩, ⟨9, cn 4133, jn 8, cn 4136⟩, ⟨9, cn 4133, jn 16, cn 4138⟩, ⟨9, cn 4133, jn 24, cn 4140⟩]⟩,
  ⟨some (.u64, (.ofNat 0), (.ofNat 18446744073709551615)), none, [⟨36, cn 4134, bn 0, cn 4135⟩]⟩,
  ⟨some (.u8, (.ofNat 0), (.ofNat 255)), none, [⟨39, cn 4135, bn 0, cn 4142⟩]⟩,
  ⟨some (.u64, (.ofNat 0), (.ofNat 18446744073709551615)), none, [⟨36, cn 4136, bn 0, cn 4137⟩]⟩,
  ⟨some (.u8, (.ofNat 0), (.ofNat 255)), none, [⟨39, cn 4137, bn 0, cn 4145⟩]⟩,
  ⟨some (.u64, (.ofNat 0), (.ofNat 18446744073709551615)), none, [⟨36, cn 4138, bn 0, cn 4139⟩]⟩,
  ⟨some (.u8, (.ofNat 0), (.ofNat 255)), none, [⟨39, cn 4139, bn 0, cn 4148⟩]⟩,
  ⟨some (.u64, (.ofNat 0), (.ofNat 18446744073709551615)), none, [⟨36, cn 4140, bn 0, cn 4141⟩]⟩,
  ⟨some (.u8, (.ofNat 0), (.ofNat 255)), none, [⟨39, cn 4141, bn 0, cn 4151⟩]⟩,
  ⟨some (.u64, (.ofNat 0), (.ofNat 18446744073709551615)), none, [⟨8, cn 4142, jn 0, cn 4143⟩]⟩,
  ⟨some (.u64, (.ofNat 0), (.ofNat 18446744073709551615)), none, [⟨6, .int .u64 (.ofNat 0), cn 4143, cn 4144⟩]⟩,
  ⟨some (.u64, (.ofNat 0), (.ofNat 18446744073709551615)), none, [⟨6, cn 4144, cn 4146, cn 4147⟩]⟩,
  ⟨some (.u64, (.ofNat 0), (.ofNat 18446744073709551615)), none, [⟨8, cn 4145, jn 8, cn 4146⟩]⟩,
  ⟨some (.u64, (.ofNat 0), (.ofNat 18446744073709551615)), none, []⟩,
  ⟨some (.u64, (.ofNat 0), (.ofNat 18446744073709551615)), none, [⟨6, cn 4147, cn 4149, cn 4150⟩]⟩,
  ⟨some (.u64, (.ofNat 0), (.ofNat 18446744073709551615)), none, [⟨8, cn 4148, jn 16, cn 4149⟩]⟩,
  ⟨some (.u64, (.ofNat 0), (.ofNat 18446744073709551615)), none, []⟩,
  ⟨some (.u64, (.ofNat 0), (.ofNat 18446744073709551615)), none, [⟨6, cn 4150, cn 4152, cn 4153⟩]⟩,
  ⟨some (.u64, (.ofNat 0), (.ofNat 18446744073709551615)), none, [⟨8, cn 4151, jn 24, cn 4152⟩]⟩,
  ⟨some (.u64, (.ofNat 0), (.ofNat 18446744073709551615)), none, []⟩,
  ⟨some (.u64, (.ofNat 0), (.ofNat 18446744073709551615)), none, []⟩,
  ⟨some (.u32, (.ofNat 0), (.ofNat 4294967295)), none, [⟨39, cn 4154, bn 0, cn 4155⟩]⟩,
  ⟨some (.u64, (.ofNat 0), (.ofNat 18446744073709551615)), none, [⟨9, cn 4155, jn 0, cn 4156⟩, ⟨9, cn 4155, jn 8, cn 4158⟩, ⟨9, cn 4155, jn 16, cn 4160⟩, ⟨9, cn 4155, jn 24, cn 4162⟩]⟩,
  ⟨some (.u64, (.ofNat 0), (.ofNat 18446744073709551615)), none, [⟨36, cn 4156, bn 0, cn 4157⟩]⟩,
  ⟨some (.u8, (.ofNat 0), (.ofNat 255)), none, []⟩,
  ⟨some (.u64, (.ofNat 0), (.ofNat 18446744073709551615)), none, [⟨36, cn 4158, bn 0, cn 4159⟩]⟩,
  ⟨some (.u8, (.ofNat 0), (.ofNat 255)), none, []⟩,
  ⟨some (.u64, (.ofNat 0), (.ofNat 18446744073709551615)), none, [⟨36, cn 4160, bn 0, cn 4161⟩]⟩,
  ⟨some (.u8, (.ofNat 0), (.ofNat 255)), none, []⟩,
  ⟨some (.u64, (.ofNat 0), (.ofNat 18446744073709551615)), none, [⟨36, cn 4162, bn 0, cn 4163⟩]⟩,
  ⟨some (.u8, (.ofNat 0), (.ofNat 255)), none, []⟩]
noncomputable def tab0 : List NInfo := [z0,
  z0,
  ⟨some (.i64, (.ofNat 100), (.ofNat 249)), none, []⟩,
  ⟨some (.u8, (.ofNat 49), (.ofNat 50)), none, []⟩,
  ⟨some (.u8, (.ofNat 48), (.ofNat 57)), none, []⟩,
  ⟨some (.u8, (.ofNat 48), (.ofNat 57)), none, []⟩,
  z0,
  z0,
  z0,
  z0,
  ⟨some (.i32, (.ofNat 49), (.ofNat 50)), none, []⟩,
  ⟨some (.i32, (.ofNat 48), (.ofNat 57)), none, []⟩,
  ⟨some (.i32, (.ofNat 48), (.ofNat 57)), none, []⟩,
  z0,
  z0,
  ⟨some (.u8, (.ofNat 1), (.ofNat 2)), none, []⟩,
  ⟨some (.u64, (.ofNat 1), (.ofNat 2)), none, [⟨0, .int .u64 (.ofNat 0), cn 4112, cn 4112⟩]⟩,
  ⟨some (.u8, (.ofNat 0), (.ofNat 9)), none, []⟩,
  ⟨some (.u64, (.ofNat 10), (.ofNat 20)), none, []⟩,
  ⟨some (.u64, (.ofNat 0), (.ofNat 9)), none, []⟩,
  ⟨some (.u64, (.ofNat 10), (.ofNat 24)), none, [⟨13, cn 4116, cn 4114, .bool false⟩]⟩,
  ⟨some (.u8, (.ofNat 0), (.ofNat 9)), none, []⟩,
  ⟨some (.u64, (.ofNat 100), (.ofNat 240)), none, []⟩,
  ⟨some (.u64, (.ofNat 0), (.ofNat 9)), none, []⟩,
  ⟨some (.u64, (.ofNat 100), (.ofNat 249)), none, [⟨13, cn 4120, cn 4118, .bool false⟩]⟩,
  ⟨some (.i64, (.ofNat 7), (.ofNat 8)), none, []⟩,
  ⟨some (.i64, (.ofNat 552391), (.ofNat 631304)), none, [⟨9, cn 4122, .int .u64 (.ofNat 18), jn 2⟩]⟩,
  ⟨some (.u32, (.ofNat 100), (.ofNat 249)), none, []⟩,
  ⟨some (.u32, (.ofNat 0), (.ofNat 99)), none, []⟩,
  ⟨some (.u32, (.ofNat 0), (.ofNat 198)), none, [⟨70, cn 4125, z0w0, cn 4100⟩]⟩,
  ⟨some (.u32, (.ofNat 1), (.ofNat 2)), none, []⟩,
  ⟨some (.u32, (.ofNat 1), (.ofNat 199)), none, [⟨70, cn 4127, z0w0, cn 4101⟩]⟩,
  ⟨some (.u32, (.ofNat 49), (.ofNat 50)), none, [⟨36, cn 4128, bn 0, cn 4099⟩]⟩,
  ⟨some (.u8, (.ofNat 100), (.ofNat 249)), none, []⟩,
  z0,
  z0,
  z0,
  z0,
  z0,
  z0,
  z0,
  z0,
  z0,
  z0,
  z0,
  z0,
  z0,
  z0,
  z0,
  z0,
  z0,
  z0,
  z0,
  z0,
  z0,
  z0,
  z0,
  ⟨none, none, [⟨12, cn 4153, cn 4133, .bool false⟩]⟩,
  z0,
  z0,
  z0,
  z0,
  z0,
  z0,
  z0,
  z0,
  z0,
  z0]
noncomputable def tab : List NInfo := (unionT tabS tab0)
noncomputable def crcs : List (List Value × Value) := [(z0w11, cn 4132),
  (z0w17, cn 4154)]
noncomputable abbrev base (a0 : Int) (a1 : Int) (x0 : Nat) : List Value := [.int .i64 a0, .int .i64 a1, .int .i64 (.ofNat x0)]
noncomputable abbrev G (a0 : Int) (a1 : Int) (x0 : Nat) : Sym := symL (mkVals ds (base a0 a1 x0))
set_option maxRecDepth 100000 in
theorem refs_ok : refsAll ds 3 = true := by kernel_rfl
set_option maxRecDepth 100000 in
theorem nam_ok : namDs ds = true := by kernel_rfl
set_option maxRecDepth 100000 in
theorem len_ok : Nat.ble tab.length 4096 = true := by kernel_rfl
set_option maxRecDepth 100000 in
theorem crcs_ok : crcsB ds 3 crcs = true := by kernel_rfl
set_option maxRecDepth 100000 in
theorem sym_ok : symTab (ksOf ds [some .i64, some .i64, some .i64]) ds 3 tabS 0 = true := by kernel_rfl
theorem gb0 (a0 : Int) (a1 : Int) (x0 : Nat) : G a0 a1 x0 (4096 - 4096) = .int .i64 a0 := by
  show symL (mkVals ds (base a0 a1 x0)) 0 = _
  rw [symL_low ds (base a0 a1 x0) 0 (by simp)]
  rfl
theorem gb1 (a0 : Int) (a1 : Int) (x0 : Nat) : G a0 a1 x0 (4097 - 4096) = .int .i64 a1 := by
  show symL (mkVals ds (base a0 a1 x0)) 1 = _
  rw [symL_low ds (base a0 a1 x0) 1 (by simp)]
  rfl
theorem gb2 (a0 : Int) (a1 : Int) (x0 : Nat) : G a0 a1 x0 (4098 - 4096) = .int .i64 (.ofNat x0) := by
  show symL (mkVals ds (base a0 a1 x0)) 2 = _
  rw [symL_low ds (base a0 a1 x0) 2 (by simp)]
  rfl
set_option maxRecDepth 100000 in
theorem tab0_all (a0 : Int) (a1 : Int) : allB 150 (fun i0 => tabB (G a0 a1 (100 + i0)) tab0 0) = true := by kernel_rfl
theorem tab0_ok (a0 : Int) (a1 : Int) (x0 : Nat) (h0 : 100 ≤ x0 ∧ x0 < 250) : TabOk (G a0 a1 x0) tab0 := by
  have h := (allB_spec (tab0_all a0 a1 ) (x0 - 100) (by omega))
  rw [show 100 + (x0 - 100) = x0 by omega] at h
  exact tabB_part h
theorem kinv (a0 : Int) (a1 : Int) (x0 : Nat) (h0 : 100 ≤ x0 ∧ x0 < 250) (w0 : -9223372036854775808 ≤ a0 ∧ a0 ≤ 9223372036854775807) (w1 : -9223372036854775808 ≤ a1 ∧ a1 ≤ 9223372036854775807) : KInv (symL (base a0 a1 x0)) [some .i64, some .i64, some .i64] := by
  intro i k hi
  match i, hi with
  | 0, hi => cases hi; exact ⟨a0, rfl, by rw [inK_iff]; exact w0⟩
  | 1, hi => cases hi; exact ⟨a1, rfl, by rw [inK_iff]; exact w1⟩
  | 2, hi => cases hi; exact ⟨.ofNat x0, rfl, by rw [inK_iff]; show (-9223372036854775808 : Int) ≤ (x0 : Int) ∧ (x0 : Int) ≤ 9223372036854775807; omega⟩
  | n + 3, hi => cases hi
theorem named_ok (a0 : Int) (a1 : Int) (x0 : Nat) (i : Nat) : named (G a0 a1 x0 i) := symL_named' (mkVals_named (by intro v hv; simp only [base, List.mem_cons, List.not_mem_nil, or_false] at hv; rcases hv with rfl | rfl | rfl <;> trivial) nam_ok) i
theorem names_ok (a0 : Int) (a1 : Int) (x0 : Nat) (h0 : 100 ≤ x0 ∧ x0 < 250) (w0 : -9223372036854775808 ≤ a0 ∧ a0 ≤ 9223372036854775807) (w1 : -9223372036854775808 ≤ a1 ∧ a1 ≤ 9223372036854775807) : NamesOk (G a0 a1 x0) (Names.ofL tab) := namesOk_parts (named_ok a0 a1 x0) len_ok (TabOk.union (symTab_part (l := base a0 a1 x0) rfl (kinv a0 a1 x0 h0 w0 w1) refs_ok sym_ok) (tab0_ok a0 a1 x0 h0 ))
theorem crc_ok (a0 : Int) (a1 : Int) (x0 : Nat) : CrcOk (G a0 a1 x0) crcs := crcsB_ok (l := base a0 a1 x0) refs_ok crcs_ok
noncomputable def pargs0 : List Value := [cn 4098]
noncomputable def pres0 : Value := cn 4102
noncomputable def pargs1 : List Value := [cn 4120]
noncomputable def pres1 : Value := cn 4121
end Go.Proofs.YtemmgompegkgkaaGreatDoor.toplasts.d3w2f
namespace Go.Proofs.YtemmgompegkgkaaGreatDoor.toplasts.d3w3f
open Go Vai
set_option linter.unusedVariables false
set_option linter.unusedSimpArgs false
noncomputable def ds : List NDef := [.idx .u8 (cn 4098) 100 z0w3,
  .idx .u8 (cn 4098) 100 z0w4,
  .idx .u8 (cn 4098) 100 z0w5,
  .str [cn 4100, cn 4101, cn 4102],
  .str [bn 49, bn 48, bn 46, bn 48, bn 46, bn 48, bn 46, cn 4100, cn 4101, cn 4102],
  .str [bn 49, bn 48, bn 46, bn 48, bn 46, bn 48, bn 46, cn 4100, cn 4101, cn 4102, bn 32, bn 104, bn 10],
  .str [bn 49, bn 48, bn 46, bn 48, bn 46, bn 48, bn 46, cn 4100, cn 4101, cn 4102, bn 32, bn 104],
  .ent 34 (cn 4100) (bn 0),
  .ent 34 (cn 4101) (bn 0),
  .ent 34 (cn 4102) (bn 0),
  .str [bn 48, bn 46, bn 48, bn 46, cn 4100, cn 4101, cn 4102],
  .str [bn 48, bn 46, cn 4100, cn 4101, cn 4102],
  .ent 1 (cn 4100) (bn 48),
  .ent 39 (cn 4112) (bn 0),
  .ent 1 (cn 4101) (bn 48),
  .ent 2 (cn 4113) (.int .u64 (.ofNat 10)),
  .ent 39 (cn 4114) (bn 0),
  .ent 0 (cn 4115) (cn 4116),
  .ent 1 (cn 4102) (bn 48),
  .ent 2 (cn 4117) (.int .u64 (.ofNat 10)),
  .ent 39 (cn 4118) (bn 0),
  .ent 0 (cn 4119) (cn 4120),
  .idx .i64 (cn 4098) 100 z0w6,
  .ent 2 (cn 4122) (jn 78913),
  .ent 38 (cn 4121) (bn 0),
  .ent 4 (cn 4124) (.int .u32 (.ofNat 100)),
  .ent 2 (cn 4125) (.int .u32 (.ofNat 2)),
  .ent 3 (cn 4124) (.int .u32 (.ofNat 100)),
  .ent 0 (cn 4126) (.int .u32 (.ofNat 1)),
  .ent 0 (.int .u32 (.ofNat 48)) (cn 4127),
  .ent 36 (cn 4121) (bn 0),
  .str [bn 10, bn 0, bn 0, cn 4130],
  .str [bn 0, bn 0, bn 0, bn 0, bn 0, bn 0, bn 0, bn 0, bn 0, bn 0, bn 255, bn 255, bn 10, bn 0, bn 0, cn 4130],
  .crc z0w12,
  .ent 39 (cn 4133) (bn 0),
  .ent 9 (cn 4134) (jn 0),
  .ent 36 (cn 4135) (bn 0),
  .ent 9 (cn 4134) (jn 8),
  .ent 36 (cn 4137) (bn 0),
  .ent 9 (cn 4134) (jn 16),
  .ent 36 (cn 4139) (bn 0),
  .ent 9 (cn 4134) (jn 24),
  .ent 36 (cn 4141) (bn 0),
  .ent 39 (cn 4136) (bn 0),
  .ent 8 (cn 4143) (jn 0),
  .ent 6 (.int .u64 (.ofNat 0)) (cn 4144),
  .ent 39 (cn 4138) (bn 0),
  .ent 8 (cn 4146) (jn 8),
  .ent 6 (cn 4145) (cn 4147),
  .ent 39 (cn 4140) (bn 0),
  .ent 8 (cn 4149) (jn 16),
  .ent 6 (cn 4148) (cn 4150),
  .ent 39 (cn 4142) (bn 0),
  .ent 8 (cn 4152) (jn 24),
  .ent 6 (cn 4151) (cn 4153),
  .ent 0 (cn 4099) (jn 600),
  .ent 39 (cn 4155) (bn 0),
  .ent 36 (cn 4156) (bn 0),
  .ent 9 (cn 4156) (jn 8),
  .ent 36 (cn 4158) (bn 0),
  .crc z0w18,
  .ent 39 (cn 4160) (bn 0),
  .ent 9 (cn 4161) (jn 0),
  .ent 36 (cn 4162) (bn 0),
  .ent 9 (cn 4161) (jn 8),
  .ent 36 (cn 4164) (bn 0),
  .ent 9 (cn 4161) (jn 16),
  .ent 36 (cn 4166) (bn 0),
  .ent 9 (cn 4161) (jn 24),
  .ent 36 (cn 4168) (bn 0)]
noncomputable def tabS : List NInfo := [z0,
  z0,
  z0,
  ⟨none, none, [⟨0, cn 4099, jn 600, cn 4155⟩]⟩,
  ⟨none, none, [⟨34, cn 4100, bn 0, cn 4107⟩, ⟨1, cn 4100, bn 48, cn 4112⟩]⟩,
  ⟨none, none, [⟨34, cn 4101, bn 0, cn 4108⟩, ⟨1, cn 4101, bn 48, cn 4114⟩]⟩,
  ⟨none, none, [⟨34, cn 4102, bn 0, cn 4109⟩, ⟨1, cn 4102, bn 48, cn 4118⟩]⟩,
  ⟨none, some [cn 4100, cn 4101, cn 4102], []⟩,
  ⟨none, some [bn 49, bn 48, bn 46, bn 48, bn 46, bn 48, bn 46, cn 4100, cn 4101, cn 4102], []⟩,
  ⟨none, some [bn 49, bn 48, bn 46, bn 48, bn 46, bn 48, bn 46, cn 4100, cn 4101, cn 4102, bn 32, bn 104, bn 10], []⟩,
  ⟨none, some [bn 49, bn 48, bn 46, bn 48, bn 46, bn 48, bn 46, cn 4100, cn 4101, cn 4102, bn 32, bn 104], []⟩,
  z0,
  z0,
  z0,
  ⟨none, some [bn 48, bn 46, bn 48, bn 46, cn 4100, cn 4101, cn 4102], []⟩,
  ⟨none, some [bn 48, bn 46, cn 4100, cn 4101, cn 4102], []⟩,
  ⟨none, none, [⟨39, cn 4112, bn 0, cn 4113⟩]⟩,
  ⟨none, none, [⟨2, cn 4113, .int .u64 (.ofNat 10), cn 4115⟩]⟩,
  ⟨none, none, [⟨39, cn 4114, bn 0, cn 4116⟩]⟩,
  ⟨none, none, [⟨0, cn 4115, cn 4116, cn 4117⟩]⟩,
  z0,
  ⟨none, none, [⟨2, cn 4117, .int .u64 (.ofNat 10), cn 4119⟩]⟩,
  ⟨none, none, [⟨39, cn 4118, bn 0, cn 4120⟩]⟩,
  ⟨none, none, [⟨0, cn 4119, cn 4120, cn 4121⟩]⟩,
  z0,
  ⟨none, none, [⟨38, cn 4121, bn 0, cn 4124⟩, ⟨36, cn 4121, bn 0, cn 4130⟩]⟩,
  ⟨none, none, [⟨2, cn 4122, jn 78913, cn 4123⟩]⟩,
  z0,
  ⟨none, none, [⟨4, cn 4124, .int .u32 (.ofNat 100), cn 4125⟩, ⟨3, cn 4124, .int .u32 (.ofNat 100), cn 4127⟩]⟩,
  ⟨none, none, [⟨2, cn 4125, .int .u32 (.ofNat 2), cn 4126⟩]⟩,
  ⟨none, none, [⟨0, cn 4126, .int .u32 (.ofNat 1), cn 4128⟩]⟩,
  ⟨none, none, [⟨0, .int .u32 (.ofNat 48), cn 4127, cn 4129⟩]⟩,
  z0,
  z0,
  z0,
  ⟨none, some [bn 10, bn 0, bn 0, cn 4130], []⟩,
  ⟨none, some [bn 0, bn 0, bn 0, bn 0, bn 0, bn 0, bn 0, bn 0, bn 0, bn 0, bn 255, bn 255, bn 10, bn 0, bn 0, cn 4130], []⟩,
  ⟨some (.u32, (.ofNat 0), (.ofNat 4294967295)), none, [⟨39, cn 4133, bn 0, cn 4134⟩]⟩,
  ⟨some (.u64, (.ofNat 0), (.ofNat 18446744073709551615)), none, [⟨9, cn 4134, jn 0, cn 4135⟩, ⟨9, cn 4134, jn 8, cn 4137⟩, ⟨9, cn 4134, jn 16, cn 4139⟩, ⟨9, cn 4134, jn 24, cn 4141⟩]⟩,
  ⟨some (.u64, (.ofNat 0), (.ofNat 18446744073709551615)), none, [⟨36, cn 4135, bn 0, cn 4136⟩]⟩,
  ⟨some (.u8, (.ofNat 0), (.ofNat 255)), none, [⟨39, cn 4136, bn 0, cn 4143⟩]⟩,
  ⟨some (.u64, (.ofNat 0), (.ofNat 18446744073709551615)), none, [⟨36, cn 4137, bn 0, cn 4138⟩]⟩,
  ⟨some (.u8, (.ofNat 0), (.ofNat 255)), none, [⟨39, cn 4138, bn 0, cn 4146⟩]⟩,
  ⟨some (.u64, (.ofNat 0), (.ofNat 18446744073709551615)), none, [⟨36, cn 4139, bn 0, cn 4140⟩]⟩,
  ⟨some (.u8, (.ofNat 0), (.ofNat 255)), none, [⟨39, cn 4140, bn 0, cn 4149⟩]⟩,
  ⟨some (.u64, (.ofNat 0), (.ofNat 18446744073709551615)), none, [⟨36, cn 4141, bn 0, cn 4142⟩]⟩,
  ⟨some (.u8, (.ofNat 0), (.ofNat 255)), none, [⟨39, cn 4142, bn 0, cn 4152⟩]⟩,
  ⟨some (.u64, (.ofNat 0), (.ofNat 18446744073709551615)), none, [⟨8, cn 4143, jn 0, cn 4144⟩]⟩,
  ⟨some (.u64, (.ofNat 0), (.ofNat 18446744073709551615)), none, [⟨6, .int .u64 (.ofNat 0), cn 4144, cn 4145⟩]⟩,
  ⟨some (.u64, (.ofNat 0), (.ofNat 18446744073709551615)), none, [⟨6, cn 4145, cn 4147, cn 4148⟩]⟩,
  ⟨some (.u64, (.ofNat 0), (.ofNat 18446744073709551615)), none, [⟨8, cn 4146, jn 8, cn 4147⟩]⟩,
  ⟨some (.u64, (.ofNat 0), (.ofNat 18446744073709551615)), none, []⟩,
  ⟨some (.u64, (.ofNat 0), (.ofNat 18446744073709551615)), none, [⟨6, cn 4148, cn 4150, cn 4151⟩]⟩,
  ⟨some (.u64, (.ofNat 0), (.ofNat 18446744073709551615)), none, [⟨8, cn 4149, jn 16, cn 4150⟩]⟩,
  ⟨some (.u64, (.ofNat 0), (.ofNat 18446744073709551615)), none, []⟩,
  ⟨some (.u64, (.ofNat 0), (.ofNat 18446744073709551615)), none, [⟨6, cn 4151, cn 4153, cn 4154⟩]⟩,
  ⟨some (.u64, (.ofNat 0), (.ofNat 18446744073709551615)), none, [⟨8, cn 4152, jn 24, cn 4153⟩]⟩,
  ⟨some (.u64, (.ofNat 0), (.ofNat 18446744073709551615)), none, []⟩,
  ⟨some (.u64, (.ofNat 0), (.ofNat 18446744073709551615)), none, []⟩,
  ⟨none, none, [⟨39, cn 4155, bn 0, cn 4156⟩]⟩,
  ⟨none, none, [⟨36, cn 4156, bn 0, cn 4157⟩, ⟨9, cn 4156, jn 8, cn 4158⟩]⟩,
  z0,
  ⟨none, none, [⟨36, cn 4158, bn 0, cn 4159⟩]⟩,
  z0,
  ⟨some (.u32, (.ofNat 0), (.ofNat 4294967295)), none, [⟨39, cn 4160, bn 0, cn 4161⟩]⟩,
  ⟨some (.u64, (.ofNat 0), (.ofNat 18446744073709551615)), none, [⟨9, cn 4161, jn 0, cn 4162⟩, ⟨9, cn 4161, jn 8, cn 4164⟩, ⟨9, cn 4161, jn 16, cn 4166⟩, ⟨9, cn 4161, jn 24, cn 4168⟩]⟩,
  ⟨some (.u64, (.ofNat 0), (.ofNat 18446744073709551615)), none, [⟨36, cn 4162, bn 0, cn 4163⟩]⟩,
  ⟨some (.u8, (.ofNat 0), (.ofNat 255)), none, []⟩,
  ⟨some (.u64, (.ofNat 0), (.ofNat 18446744073709551615)), none, [⟨36, cn 4164, bn 0, cn 4165⟩]⟩,
  ⟨some (.u8, (.ofNat 0), (.ofNat 255)), none, []⟩,
  ⟨some (.u64, (.ofNat 0), (.ofNat 18446744073709551615)), none, [⟨36, cn 4166, bn 0, cn 4167⟩]⟩,
  ⟨some (.u8, (.ofNat 0), (.ofNat 255)), none, []⟩,
  ⟨some (.u64, (.ofNat 0), (.ofNat 18446744073709551615)), none, [⟨36, cn 4168, bn 0, cn 4169⟩]⟩,
  ⟨some (.u8, (.ofNat 0), (.ofNat 255)), none, []⟩]
noncomputable def tab0 : List NInfo := [z0,
  z0,
  ⟨some (.i64, (.ofNat 100), (.ofNat 249)), none, []⟩,
  z0,
  ⟨some (.u8, (.ofNat 49), (.ofNat 50)), none, []⟩,
  ⟨some (.u8, (.ofNat 48), (.ofNat 57)), none, []⟩,
  ⟨some (.u8, (.ofNat 48), (.ofNat 57)), none, []⟩,
  z0,
  z0,
  z0,
  z0,
  ⟨some (.i32, (.ofNat 49), (.ofNat 50)), none, []⟩,
  ⟨some (.i32, (.ofNat 48), (.ofNat 57)), none, []⟩,
  ⟨some (.i32, (.ofNat 48), (.ofNat 57)), none, []⟩,
  z0,
  z0,
  ⟨some (.u8, (.ofNat 1), (.ofNat 2)), none, []⟩,
  ⟨some (.u64, (.ofNat 1), (.ofNat 2)), none, [⟨0, .int .u64 (.ofNat 0), cn 4113, cn 4113⟩]⟩,
  ⟨some (.u8, (.ofNat 0), (.ofNat 9)), none, []⟩,
  ⟨some (.u64, (.ofNat 10), (.ofNat 20)), none, []⟩,
  ⟨some (.u64, (.ofNat 0), (.ofNat 9)), none, []⟩,
  ⟨some (.u64, (.ofNat 10), (.ofNat 24)), none, [⟨13, cn 4117, cn 4115, .bool false⟩]⟩,
  ⟨some (.u8, (.ofNat 0), (.ofNat 9)), none, []⟩,
  ⟨some (.u64, (.ofNat 100), (.ofNat 240)), none, []⟩,
  ⟨some (.u64, (.ofNat 0), (.ofNat 9)), none, []⟩,
  ⟨some (.u64, (.ofNat 100), (.ofNat 249)), none, [⟨13, cn 4121, cn 4119, .bool false⟩]⟩,
  ⟨some (.i64, (.ofNat 7), (.ofNat 8)), none, []⟩,
  ⟨some (.i64, (.ofNat 552391), (.ofNat 631304)), none, [⟨9, cn 4123, .int .u64 (.ofNat 18), jn 2⟩]⟩,
  ⟨some (.u32, (.ofNat 100), (.ofNat 249)), none, []⟩,
  ⟨some (.u32, (.ofNat 0), (.ofNat 99)), none, []⟩,
  ⟨some (.u32, (.ofNat 0), (.ofNat 198)), none, [⟨70, cn 4126, z0w0, cn 4101⟩]⟩,
  ⟨some (.u32, (.ofNat 1), (.ofNat 2)), none, []⟩,
  ⟨some (.u32, (.ofNat 1), (.ofNat 199)), none, [⟨70, cn 4128, z0w0, cn 4102⟩]⟩,
  ⟨some (.u32, (.ofNat 49), (.ofNat 50)), none, [⟨36, cn 4129, bn 0, cn 4100⟩]⟩,
  ⟨some (.u8, (.ofNat 100), (.ofNat 249)), none, []⟩,
  z0,
  z0,
  z0,
  z0,
  z0,
  z0,
  z0,
  z0,
  z0,
  z0,
  z0,
  z0,
  z0,
  z0,
  z0,
  z0,
  z0,
  z0,
  z0,
  z0,
  z0,
  z0,
  z0,
  ⟨none, none, [⟨12, cn 4154, cn 4134, .bool false⟩]⟩,
  z0,
  z0,
  z0,
  z0,
  z0,
  z0,
  z0,
  z0,
  z0,
  z0,
  z0,
  z0,
  z0,
  z0,
  z0]
noncomputable def tab1 : List NInfo := [z0,
  z0,
  z0,
  ⟨some (.i64, (.ofNat 601), (.ofNat 899)), none, [⟨0, jn 0, cn 4099, cn 4099⟩]⟩,
  z0,
  z0,
  z0,
  z0,
  z0,
  z0,
  z0,
  z0,
  z0,
  z0,
  z0,
  z0,
  z0,
  z0,
  z0,
  z0,
  z0,
  z0,
  z0,
  z0,
  z0,
  z0,
  z0,
  z0,
  z0,
  z0,
  z0,
  z0,
  z0,
  z0,
  z0,
  z0,
  z0,
  z0,
  z0,
  z0,
  z0,
  z0,
  z0,
  z0,
  z0,
  z0,
  z0,
  z0,
  z0,
  z0,
  z0,
  z0,
  z0,
  z0,
  z0,
  z0,
  z0,
  z0,
  z0,
  ⟨some (.i64, (.ofNat 1201), (.ofNat 1499)), none, []⟩,
  ⟨some (.u64, (.ofNat 1201), (.ofNat 1499)), none, [⟨9, cn 4156, jn 0, cn 4156⟩, ⟨9, cn 4156, jn 16, .int .u64 (.ofNat 0)⟩, ⟨9, cn 4156, jn 24, .int .u64 (.ofNat 0)⟩, ⟨9, cn 4156, jn 32, .int .u64 (.ofNat 0)⟩, ⟨9, cn 4156, jn 40, .int .u64 (.ofNat 0)⟩, ⟨9, cn 4156, jn 48, .int .u64 (.ofNat 0)⟩, ⟨9, cn 4156, jn 56, .int .u64 (.ofNat 0)⟩]⟩,
  ⟨some (.u8, (.ofNat 0), (.ofNat 255)), none, []⟩,
  ⟨some (.u64, (.ofNat 4), (.ofNat 5)), none, []⟩,
  ⟨some (.u8, (.ofNat 4), (.ofNat 5)), none, []⟩,
  z0,
  z0,
  z0,
  z0,
  z0,
  z0,
  z0,
  z0,
  z0,
  z0]
noncomputable def tab : List NInfo := (unionT tabS (unionT tab0 tab1))
noncomputable def crcs : List (List Value × Value) := [(z0w12, cn 4133),
  (z0w18, cn 4160)]
noncomputable abbrev base (a0 : Int) (a1 : Int) (x0 : Nat) (x1 : Nat) : List Value := [.int .i64 a0, .int .i64 a1, .int .i64 (.ofNat x0), .int .i64 (.ofNat x1)]
noncomputable abbrev G (a0 : Int) (a1 : Int) (x0 : Nat) (x1 : Nat) : Sym := symL (mkVals ds (base a0 a1 x0 x1))
set_option maxRecDepth 100000 in
theorem refs_ok : refsAll ds 4 = true := by kernel_rfl
set_option maxRecDepth 100000 in
theorem nam_ok : namDs ds = true := by kernel_rfl
set_option maxRecDepth 100000 in
theorem len_ok : Nat.ble tab.length 4096 = true := by kernel_rfl
set_option maxRecDepth 100000 in
theorem crcs_ok : crcsB ds 4 crcs = true := by kernel_rfl
set_option maxRecDepth 100000 in
theorem sym_ok : symTab (ksOf ds [some .i64, some .i64, some .i64, some .i64]) ds 4 tabS 0 = true := by kernel_rfl
theorem gb0 (a0 : Int) (a1 : Int) (x0 : Nat) (x1 : Nat) : G a0 a1 x0 x1 (4096 - 4096) = .int .i64 a0 := by
  show symL (mkVals ds (base a0 a1 x0 x1)) 0 = _
  rw [symL_low ds (base a0 a1 x0 x1) 0 (by simp)]
  rfl
theorem gb1 (a0 : Int) (a1 : Int) (x0 : Nat) (x1 : Nat) : G a0 a1 x0 x1 (4097 - 4096) = .int .i64 a1 := by
  show symL (mkVals ds (base a0 a1 x0 x1)) 1 = _
  rw [symL_low ds (base a0 a1 x0 x1) 1 (by simp)]
  rfl
theorem gb2 (a0 : Int) (a1 : Int) (x0 : Nat) (x1 : Nat) : G a0 a1 x0 x1 (4098 - 4096) = .int .i64 (.ofNat x0) := by
  show symL (mkVals ds (base a0 a1 x0 x1)) 2 = _
  rw [symL_low ds (base a0 a1 x0 x1) 2 (by simp)]
  rfl
theorem gb3 (a0 : Int) (a1 : Int) (x0 : Nat) (x1 : Nat) : G a0 a1 x0 x1 (4099 - 4096) = .int .i64 (.ofNat x1) := by
  show symL (mkVals ds (base a0 a1 x0 x1)) 3 = _
  rw [symL_low ds (base a0 a1 x0 x1) 3 (by simp)]
  rfl
set_option maxRecDepth 100000 in
theorem tab0_all (a0 : Int) (a1 : Int) (x1 : Nat) : allB 150 (fun i0 => tabB (G a0 a1 (100 + i0) x1) tab0 0) = true := by kernel_rfl
theorem tab0_ok (a0 : Int) (a1 : Int) (x0 : Nat) (x1 : Nat) (h0 : 100 ≤ x0 ∧ x0 < 250) (h1 : 601 ≤ x1 ∧ x1 < 900) : TabOk (G a0 a1 x0 x1) tab0 := by
  have h := (allB_spec (tab0_all a0 a1 x1) (x0 - 100) (by omega))
  rw [show 100 + (x0 - 100) = x0 by omega] at h
  exact tabB_part h
set_option maxRecDepth 100000 in
theorem tab1_all601 (a0 : Int) (a1 : Int) (x0 : Nat) : allB 200 (fun i1 => tabB (G a0 a1 x0 (601 + i1)) tab1 0) = true := by kernel_rfl
set_option maxRecDepth 100000 in
theorem tab1_all801 (a0 : Int) (a1 : Int) (x0 : Nat) : allB 99 (fun i1 => tabB (G a0 a1 x0 (801 + i1)) tab1 0) = true := by kernel_rfl
theorem tab1_ok (a0 : Int) (a1 : Int) (x0 : Nat) (x1 : Nat) (h0 : 100 ≤ x0 ∧ x0 < 250) (h1 : 601 ≤ x1 ∧ x1 < 900) : TabOk (G a0 a1 x0 x1) tab1 := by
  by_cases hc601 : x1 < 801
  · have h := (allB_spec (tab1_all601 a0 a1 x0) (x1 - 601) (by omega))
    rw [show 601 + (x1 - 601) = x1 by omega] at h
    exact tabB_part h
  by_cases hc801 : x1 < 900
  · have h := (allB_spec (tab1_all801 a0 a1 x0) (x1 - 801) (by omega))
    rw [show 801 + (x1 - 801) = x1 by omega] at h
    exact tabB_part h
  · omega
theorem kinv (a0 : Int) (a1 : Int) (x0 : Nat) (x1 : Nat) (h0 : 100 ≤ x0 ∧ x0 < 250) (h1 : 601 ≤ x1 ∧ x1 < 900) (w0 : -9223372036854775808 ≤ a0 ∧ a0 ≤ 9223372036854775807) (w1 : -9223372036854775808 ≤ a1 ∧ a1 ≤ 9223372036854775807) : KInv (symL (base a0 a1 x0 x1)) [some .i64, some .i64, some .i64, some .i64] := by
  intro i k hi
  match i, hi with
  | 0, hi => cases hi; exact ⟨a0, rfl, by rw [inK_iff]; exact w0⟩
  | 1, hi => cases hi; exact ⟨a1, rfl, by rw [inK_iff]; exact w1⟩
  | 2, hi => cases hi; exact ⟨.ofNat x0, rfl, by rw [inK_iff]; show (-9223372036854775808 : Int) ≤ (x0 : Int) ∧ (x0 : Int) ≤ 9223372036854775807; omega⟩
  | 3, hi => cases hi; exact ⟨.ofNat x1, rfl, by rw [inK_iff]; show (-9223372036854775808 : Int) ≤ (x1 : Int) ∧ (x1 : Int) ≤ 9223372036854775807; omega⟩
  | n + 4, hi => cases hi
theorem named_ok (a0 : Int) (a1 : Int) (x0 : Nat) (x1 : Nat) (i : Nat) : named (G a0 a1 x0 x1 i) := symL_named' (mkVals_named (by intro v hv; simp only [base, List.mem_cons, List.not_mem_nil, or_false] at hv; rcases hv with rfl | rfl | rfl | rfl <;> trivial) nam_ok) i
theorem names_ok (a0 : Int) (a1 : Int) (x0 : Nat) (x1 : Nat) (h0 : 100 ≤ x0 ∧ x0 < 250) (h1 : 601 ≤ x1 ∧ x1 < 900) (w0 : -9223372036854775808 ≤ a0 ∧ a0 ≤ 9223372036854775807) (w1 : -9223372036854775808 ≤ a1 ∧ a1 ≤ 9223372036854775807) : NamesOk (G a0 a1 x0 x1) (Names.ofL tab) := namesOk_parts (named_ok a0 a1 x0 x1) len_ok (TabOk.union (symTab_part (l := base a0 a1 x0 x1) rfl (kinv a0 a1 x0 x1 h0 h1 w0 w1) refs_ok sym_ok) (TabOk.union (tab0_ok a0 a1 x0 x1 h0 h1 ) (tab1_ok a0 a1 x0 x1 h0 h1 )))
theorem crc_ok (a0 : Int) (a1 : Int) (x0 : Nat) (x1 : Nat) : CrcOk (G a0 a1 x0 x1) crcs := crcsB_ok (l := base a0 a1 x0 x1) refs_ok crcs_ok
noncomputable def pargs0 : List Value := [cn 4098]
noncomputable def pres0 : Value := cn 4103
noncomputable def pargs1 : List Value := [cn 4121]
noncomputable def pres1 : Value := cn 4122
end Go.Proofs.YtemmgompegkgkaaGreatDoor.toplasts.d3w3f
