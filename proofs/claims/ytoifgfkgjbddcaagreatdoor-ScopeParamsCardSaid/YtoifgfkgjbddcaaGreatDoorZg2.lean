/- A part of the abstract machine and of the proof that the program does what it reckons; no conditions. -/
import Derived.Test.YtoifgfkgjbddcaaGreatDoorZy
set_option linter.all false
namespace Dt
open Go
set_option linter.all false
set_option maxRecDepth 100000
theorem params_1_false : Q.Z.evF T1q 200 7 [.int .i64 (.ofNat 1), .bool false] ⟨0, .nil, []⟩ yes = true := by kernel_rfl
theorem params_1_true : Q.Z.evF T1q 200 7 [.int .i64 (.ofNat 1), .bool true] ⟨0, .nil, []⟩ yes = true := by kernel_rfl
theorem params_8_false : Q.Z.evF T1q 200 7 [.int .i64 (.ofNat 8), .bool false] ⟨0, .nil, []⟩ yes = true := by kernel_rfl
theorem params_8_true : Q.Z.evF T1q 200 7 [.int .i64 (.ofNat 8), .bool true] ⟨0, .nil, []⟩ yes = true := by kernel_rfl
end Dt
