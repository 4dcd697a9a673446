/- A part of the abstract machine and of the proof that the program does what it reckons; no conditions. -/
import Derived.Test.YtoifgfkgjbddcaaGreatDoorZy
set_option linter.all false
namespace Dt
open Go
set_option linter.all false
set_option maxRecDepth 100000
theorem clauses_2_0_true : Q.Z.evF T1q 200 6 [.int .i64 (.ofNat 2), .int .i64 (.ofNat 0), .bool true] ⟨0, .nil, []⟩ yes = true := by kernel_rfl
theorem clauses_2_1_true : Q.Z.evF T1q 200 6 [.int .i64 (.ofNat 2), .int .i64 (.ofNat 1), .bool true] ⟨0, .nil, []⟩ yes = true := by kernel_rfl
theorem clauses_4_3_true : Q.Z.evF T1q 200 6 [.int .i64 (.ofNat 4), .int .i64 (.ofNat 3), .bool true] ⟨0, .nil, []⟩ yes = true := by kernel_rfl
theorem clauses_5_4_false : Q.Z.evF T1q 200 6 [.int .i64 (.ofNat 5), .int .i64 (.ofNat 4), .bool false] ⟨0, .nil, []⟩ yes = true := by kernel_rfl
theorem clauses_6_5_true : Q.Z.evF T1q 200 6 [.int .i64 (.ofNat 6), .int .i64 (.ofNat 5), .bool true] ⟨0, .nil, []⟩ yes = true := by kernel_rfl
theorem clauses_7_2_false : Q.Z.evF T1q 200 6 [.int .i64 (.ofNat 7), .int .i64 (.ofNat 2), .bool false] ⟨0, .nil, []⟩ yes = true := by kernel_rfl
theorem clauses_7_6_true : Q.Z.evF T1q 200 6 [.int .i64 (.ofNat 7), .int .i64 (.ofNat 6), .bool true] ⟨0, .nil, []⟩ yes = true := by kernel_rfl
theorem clauses_8_2_true : Q.Z.evF T1q 200 6 [.int .i64 (.ofNat 8), .int .i64 (.ofNat 2), .bool true] ⟨0, .nil, []⟩ yes = true := by kernel_rfl
theorem clauses_8_5_true : Q.Z.evF T1q 200 6 [.int .i64 (.ofNat 8), .int .i64 (.ofNat 5), .bool true] ⟨0, .nil, []⟩ yes = true := by kernel_rfl
theorem clauses_9_7_false : Q.Z.evF T1q 200 6 [.int .i64 (.ofNat 9), .int .i64 (.ofNat 7), .bool false] ⟨0, .nil, []⟩ yes = true := by kernel_rfl
theorem clauses_10_1_false : Q.Z.evF T1q 200 6 [.int .i64 (.ofNat 10), .int .i64 (.ofNat 1), .bool false] ⟨0, .nil, []⟩ yes = true := by kernel_rfl
theorem clauses_10_5_false : Q.Z.evF T1q 200 6 [.int .i64 (.ofNat 10), .int .i64 (.ofNat 5), .bool false] ⟨0, .nil, []⟩ yes = true := by kernel_rfl
theorem clauses_10_9_true : Q.Z.evF T1q 200 6 [.int .i64 (.ofNat 10), .int .i64 (.ofNat 9), .bool true] ⟨0, .nil, []⟩ yes = true := by kernel_rfl
theorem clauses_11_3_false : Q.Z.evF T1q 200 6 [.int .i64 (.ofNat 11), .int .i64 (.ofNat 3), .bool false] ⟨0, .nil, []⟩ yes = true := by kernel_rfl
theorem clauses_11_7_true : Q.Z.evF T1q 200 6 [.int .i64 (.ofNat 11), .int .i64 (.ofNat 7), .bool true] ⟨0, .nil, []⟩ yes = true := by kernel_rfl
theorem clauses_12_0_false : Q.Z.evF T1q 200 6 [.int .i64 (.ofNat 12), .int .i64 (.ofNat 0), .bool false] ⟨0, .nil, []⟩ yes = true := by kernel_rfl
theorem clauses_12_4_true : Q.Z.evF T1q 200 6 [.int .i64 (.ofNat 12), .int .i64 (.ofNat 4), .bool true] ⟨0, .nil, []⟩ yes = true := by kernel_rfl
theorem clauses_12_9_false : Q.Z.evF T1q 200 6 [.int .i64 (.ofNat 12), .int .i64 (.ofNat 9), .bool false] ⟨0, .nil, []⟩ yes = true := by kernel_rfl
end Dt
