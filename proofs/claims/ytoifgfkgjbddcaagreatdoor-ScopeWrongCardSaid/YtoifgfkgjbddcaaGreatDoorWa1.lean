/- A part of the abstract machine and of the proof that the program does what it reckons; no conditions. -/
import Derived.Test.YtoifgfkgjbddcaaGreatDoorZw
set_option linter.all false
namespace Dt
open Go
set_option linter.all false
set_option maxRecDepth 100000
theorem wa0 : run1 3 0 = true := by kernel_rfl
theorem wa1 : run1 3 1 = true := by kernel_rfl
theorem wa2 : run1 3 2 = true := by kernel_rfl
theorem wa3 : run1 3 3 = true := by kernel_rfl
theorem wa4 : run1 3 4 = true := by kernel_rfl
theorem wa5 : run1 3 5 = true := by kernel_rfl
theorem wa6 : run1 3 6 = true := by kernel_rfl
theorem wa7 : run1 3 7 = true := by kernel_rfl
theorem wa8 : run1 3 8 = true := by kernel_rfl
theorem wa9 : run1 3 9 = true := by kernel_rfl
theorem wa10 : run1 3 10 = true := by kernel_rfl
theorem wa11 : run1 3 11 = true := by kernel_rfl
theorem wa12 : run1 3 12 = true := by kernel_rfl
end Dt
