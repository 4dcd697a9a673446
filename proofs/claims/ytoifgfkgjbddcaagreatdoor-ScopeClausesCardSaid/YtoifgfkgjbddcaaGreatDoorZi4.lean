/- A part of the abstract machine and of the proof that the program does what it reckons; no conditions. -/
import Derived.Test.YtoifgfkgjbddcaaGreatDoorZy
set_option linter.all false
namespace Dt
open Go
set_option linter.all false
set_option maxRecDepth 100000
theorem clauses_3_0_true : Q.Z.evF T1q 200 6 [.int .i64 (.ofNat 3), .int .i64 (.ofNat 0), .bool true] ⟨0, .nil, []⟩ yes = true := by kernel_rfl
theorem clauses_4_0_true : Q.Z.evF T1q 200 6 [.int .i64 (.ofNat 4), .int .i64 (.ofNat 0), .bool true] ⟨0, .nil, []⟩ yes = true := by kernel_rfl
theorem clauses_5_1_false : Q.Z.evF T1q 200 6 [.int .i64 (.ofNat 5), .int .i64 (.ofNat 1), .bool false] ⟨0, .nil, []⟩ yes = true := by kernel_rfl
theorem clauses_6_1_false : Q.Z.evF T1q 200 6 [.int .i64 (.ofNat 6), .int .i64 (.ofNat 1), .bool false] ⟨0, .nil, []⟩ yes = true := by kernel_rfl
theorem clauses_6_2_true : Q.Z.evF T1q 200 6 [.int .i64 (.ofNat 6), .int .i64 (.ofNat 2), .bool true] ⟨0, .nil, []⟩ yes = true := by kernel_rfl
theorem clauses_7_3_true : Q.Z.evF T1q 200 6 [.int .i64 (.ofNat 7), .int .i64 (.ofNat 3), .bool true] ⟨0, .nil, []⟩ yes = true := by kernel_rfl
theorem clauses_8_7_false : Q.Z.evF T1q 200 6 [.int .i64 (.ofNat 8), .int .i64 (.ofNat 7), .bool false] ⟨0, .nil, []⟩ yes = true := by kernel_rfl
theorem clauses_9_1_false : Q.Z.evF T1q 200 6 [.int .i64 (.ofNat 9), .int .i64 (.ofNat 1), .bool false] ⟨0, .nil, []⟩ yes = true := by kernel_rfl
theorem clauses_9_4_false : Q.Z.evF T1q 200 6 [.int .i64 (.ofNat 9), .int .i64 (.ofNat 4), .bool false] ⟨0, .nil, []⟩ yes = true := by kernel_rfl
theorem clauses_9_8_true : Q.Z.evF T1q 200 6 [.int .i64 (.ofNat 9), .int .i64 (.ofNat 8), .bool true] ⟨0, .nil, []⟩ yes = true := by kernel_rfl
theorem clauses_10_2_true : Q.Z.evF T1q 200 6 [.int .i64 (.ofNat 10), .int .i64 (.ofNat 2), .bool true] ⟨0, .nil, []⟩ yes = true := by kernel_rfl
theorem clauses_10_6_true : Q.Z.evF T1q 200 6 [.int .i64 (.ofNat 10), .int .i64 (.ofNat 6), .bool true] ⟨0, .nil, []⟩ yes = true := by kernel_rfl
theorem clauses_11_4_true : Q.Z.evF T1q 200 6 [.int .i64 (.ofNat 11), .int .i64 (.ofNat 4), .bool true] ⟨0, .nil, []⟩ yes = true := by kernel_rfl
theorem clauses_11_9_false : Q.Z.evF T1q 200 6 [.int .i64 (.ofNat 11), .int .i64 (.ofNat 9), .bool false] ⟨0, .nil, []⟩ yes = true := by kernel_rfl
theorem clauses_12_1_true : Q.Z.evF T1q 200 6 [.int .i64 (.ofNat 12), .int .i64 (.ofNat 1), .bool true] ⟨0, .nil, []⟩ yes = true := by kernel_rfl
theorem clauses_12_6_false : Q.Z.evF T1q 200 6 [.int .i64 (.ofNat 12), .int .i64 (.ofNat 6), .bool false] ⟨0, .nil, []⟩ yes = true := by kernel_rfl
theorem clauses_12_10_true : Q.Z.evF T1q 200 6 [.int .i64 (.ofNat 12), .int .i64 (.ofNat 10), .bool true] ⟨0, .nil, []⟩ yes = true := by kernel_rfl
end Dt
