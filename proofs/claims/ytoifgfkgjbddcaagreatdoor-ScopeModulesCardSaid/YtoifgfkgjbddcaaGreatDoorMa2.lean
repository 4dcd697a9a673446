/- A part of the abstract machine and of the proof that the program does what it reckons; no conditions. -/
import Derived.Test.YtoifgfkgjbddcaaGreatDoorZw
set_option linter.all false
namespace Dt
open Go
set_option linter.all false
set_option maxRecDepth 100000
theorem ma0 : run1 4 0 = true := by kernel_rfl
theorem ma8 : run1 4 8 = true := by kernel_rfl
theorem ma12 : run1 4 12 = true := by kernel_rfl
theorem ma17 : run1 4 17 = true := by kernel_rfl
theorem ma22 : run1 4 22 = true := by kernel_rfl
theorem ma27 : run1 4 27 = true := by kernel_rfl
theorem ma32 : run1 4 32 = true := by kernel_rfl
end Dt
