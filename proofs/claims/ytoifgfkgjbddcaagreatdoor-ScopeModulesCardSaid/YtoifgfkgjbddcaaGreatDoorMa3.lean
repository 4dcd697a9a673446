/- A part of the abstract machine and of the proof that the program does what it reckons; no conditions. -/
import Derived.Test.YtoifgfkgjbddcaaGreatDoorZw
set_option linter.all false
namespace Dt
open Go
set_option linter.all false
set_option maxRecDepth 100000
theorem ma1 : run1 4 1 = true := by kernel_rfl
theorem ma4 : run1 4 4 = true := by kernel_rfl
theorem ma9 : run1 4 9 = true := by kernel_rfl
theorem ma14 : run1 4 14 = true := by kernel_rfl
theorem ma19 : run1 4 19 = true := by kernel_rfl
theorem ma24 : run1 4 24 = true := by kernel_rfl
theorem ma29 : run1 4 29 = true := by kernel_rfl
end Dt
