/- The law WirePointers: what the evaluator says of it, the number asked first being 0. -/
import Derived.Test.YtbdffkecbgbapaaDoorWirePointersB
namespace Go.Proofs.YtbdffkecbgbapaaDoor.wirepointers
set_option maxRecDepth 100000 in
theorem in_0_0  : (Vai.allB 6 fun j => said #[.int .i64 (.ofNat (j + 0 + 0)), .int .i64 (.ofNat 0)]) = true := by kernel_rfl
set_option maxRecDepth 100000 in
theorem in_0_1  : (Vai.allB 6 fun j => said #[.int .i64 (.ofNat (j + 6 + 0)), .int .i64 (.ofNat 0)]) = true := by kernel_rfl
set_option maxRecDepth 100000 in
theorem in_0_2  : (Vai.allB 6 fun j => said #[.int .i64 (.ofNat (j + 12 + 0)), .int .i64 (.ofNat 0)]) = true := by kernel_rfl
set_option maxRecDepth 100000 in
theorem in_0_3  : (Vai.allB 6 fun j => said #[.int .i64 (.ofNat (j + 18 + 0)), .int .i64 (.ofNat 0)]) = true := by kernel_rfl
set_option maxRecDepth 100000 in
theorem in_0_4  : (Vai.allB 6 fun j => said #[.int .i64 (.ofNat (j + 24 + 0)), .int .i64 (.ofNat 0)]) = true := by kernel_rfl
set_option maxRecDepth 100000 in
theorem in_0_5  : (Vai.allB 6 fun j => said #[.int .i64 (.ofNat (j + 30 + 0)), .int .i64 (.ofNat 0)]) = true := by kernel_rfl
set_option maxRecDepth 100000 in
theorem in_0_6  : (Vai.allB 6 fun j => said #[.int .i64 (.ofNat (j + 36 + 0)), .int .i64 (.ofNat 0)]) = true := by kernel_rfl
set_option maxRecDepth 100000 in
theorem in_0_7  : (Vai.allB 6 fun j => said #[.int .i64 (.ofNat (j + 42 + 0)), .int .i64 (.ofNat 0)]) = true := by kernel_rfl
set_option maxRecDepth 100000 in
theorem in_0_8  : (Vai.allB 6 fun j => said #[.int .i64 (.ofNat (j + 48 + 0)), .int .i64 (.ofNat 0)]) = true := by kernel_rfl
set_option maxRecDepth 100000 in
theorem in_0_9  : (Vai.allB 6 fun j => said #[.int .i64 (.ofNat (j + 54 + 0)), .int .i64 (.ofNat 0)]) = true := by kernel_rfl
set_option maxRecDepth 100000 in
theorem in_0_10  : (Vai.allB 1 fun j => said #[.int .i64 (.ofNat (j + 60 + 0)), .int .i64 (.ofNat 0)]) = true := by kernel_rfl
theorem in_0 (i : Nat) (h : i < 61) : said #[.int .i64 (.ofNat (i + 0)), .int .i64 (.ofNat 0)] = true := by
  by_cases h0 : i < 6
  · exact Vai.allB_spec in_0_0 i (by omega)
  by_cases h1 : i < 12
  · obtain ⟨j, rfl⟩ : ∃ j, i = j + 6 := ⟨i - 6, by omega⟩
    exact Vai.allB_spec in_0_1 j (by omega)
  by_cases h2 : i < 18
  · obtain ⟨j, rfl⟩ : ∃ j, i = j + 12 := ⟨i - 12, by omega⟩
    exact Vai.allB_spec in_0_2 j (by omega)
  by_cases h3 : i < 24
  · obtain ⟨j, rfl⟩ : ∃ j, i = j + 18 := ⟨i - 18, by omega⟩
    exact Vai.allB_spec in_0_3 j (by omega)
  by_cases h4 : i < 30
  · obtain ⟨j, rfl⟩ : ∃ j, i = j + 24 := ⟨i - 24, by omega⟩
    exact Vai.allB_spec in_0_4 j (by omega)
  by_cases h5 : i < 36
  · obtain ⟨j, rfl⟩ : ∃ j, i = j + 30 := ⟨i - 30, by omega⟩
    exact Vai.allB_spec in_0_5 j (by omega)
  by_cases h6 : i < 42
  · obtain ⟨j, rfl⟩ : ∃ j, i = j + 36 := ⟨i - 36, by omega⟩
    exact Vai.allB_spec in_0_6 j (by omega)
  by_cases h7 : i < 48
  · obtain ⟨j, rfl⟩ : ∃ j, i = j + 42 := ⟨i - 42, by omega⟩
    exact Vai.allB_spec in_0_7 j (by omega)
  by_cases h8 : i < 54
  · obtain ⟨j, rfl⟩ : ∃ j, i = j + 48 := ⟨i - 48, by omega⟩
    exact Vai.allB_spec in_0_8 j (by omega)
  by_cases h9 : i < 60
  · obtain ⟨j, rfl⟩ : ∃ j, i = j + 54 := ⟨i - 54, by omega⟩
    exact Vai.allB_spec in_0_9 j (by omega)
  by_cases h10 : i < 61
  · obtain ⟨j, rfl⟩ : ∃ j, i = j + 60 := ⟨i - 60, by omega⟩
    exact Vai.allB_spec in_0_10 j (by omega)
  omega
end Go.Proofs.YtbdffkecbgbapaaDoor.wirepointers
