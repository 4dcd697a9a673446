/- A part of the abstract machine and of the proof that the program does what it reckons; no conditions. -/
import Derived.Test.YtoifgfkgjbddcaaGreatDoorZw
set_option linter.all false
namespace Dt
open Go
set_option linter.all false
set_option maxRecDepth 100000
theorem wa13 : run1 3 13 = true := by kernel_rfl
theorem wa14 : run1 3 14 = true := by kernel_rfl
theorem wa15 : run1 3 15 = true := by kernel_rfl
theorem wa16 : run1 3 16 = true := by kernel_rfl
theorem wa17 : run1 3 17 = true := by kernel_rfl
theorem wa18 : run1 3 18 = true := by kernel_rfl
theorem wa19 : run1 3 19 = true := by kernel_rfl
theorem wa20 : run1 3 20 = true := by kernel_rfl
theorem wa21 : run1 3 21 = true := by kernel_rfl
theorem wa22 : run1 3 22 = true := by kernel_rfl
theorem wa23 : run1 3 23 = true := by kernel_rfl
theorem wa24 : run1 3 24 = true := by kernel_rfl
theorem wa25 : run1 3 25 = true := by kernel_rfl
end Dt
