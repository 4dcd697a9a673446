/- A part of the abstract machine and of the proof that the program does what it reckons; no conditions. -/
import Derived.Test.YtoifgfkgjbddcaaGreatDoorZw
set_option linter.all false
namespace Dt
open Go
set_option linter.all false
set_option maxRecDepth 100000
theorem ma2 : run1 4 2 = true := by kernel_rfl
theorem ma6 : run1 4 6 = true := by kernel_rfl
theorem ma10 : run1 4 10 = true := by kernel_rfl
theorem ma15 : run1 4 15 = true := by kernel_rfl
theorem ma20 : run1 4 20 = true := by kernel_rfl
theorem ma25 : run1 4 25 = true := by kernel_rfl
theorem ma30 : run1 4 30 = true := by kernel_rfl
end Dt
