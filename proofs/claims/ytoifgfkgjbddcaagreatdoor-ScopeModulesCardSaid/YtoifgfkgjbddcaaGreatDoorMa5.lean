/- A part of the abstract machine and of the proof that the program does what it reckons; no conditions. -/
import Derived.Test.YtoifgfkgjbddcaaGreatDoorZw
set_option linter.all false
namespace Dt
open Go
set_option linter.all false
set_option maxRecDepth 100000
theorem ma3 : run1 4 3 = true := by kernel_rfl
theorem ma7 : run1 4 7 = true := by kernel_rfl
theorem ma11 : run1 4 11 = true := by kernel_rfl
theorem ma16 : run1 4 16 = true := by kernel_rfl
theorem ma21 : run1 4 21 = true := by kernel_rfl
theorem ma26 : run1 4 26 = true := by kernel_rfl
theorem ma31 : run1 4 31 = true := by kernel_rfl
end Dt
