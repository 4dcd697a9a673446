/- A part of the abstract machine and of the proof that the program does what it reckons; no conditions. -/
import Derived.Test.YtoifgfkgjbddcaaGreatDoorZw
set_option linter.all false
namespace Dt
open Go
set_option linter.all false
set_option maxRecDepth 100000
theorem ma5 : run1 4 5 = true := by kernel_rfl
theorem ma13 : run1 4 13 = true := by kernel_rfl
theorem ma18 : run1 4 18 = true := by kernel_rfl
theorem ma23 : run1 4 23 = true := by kernel_rfl
theorem ma28 : run1 4 28 = true := by kernel_rfl
end Dt
