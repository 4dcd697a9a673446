/- A part of the abstract machine and of the proof that the program does what it reckons; no conditions. -/
import Derived.Test.YtoifgfkgjbddcaaGreatDoorZx
set_option linter.all false
namespace Dt
open Go
set_option linter.all false
set_option maxRecDepth 100000
theorem l3_0 : run3 5 3 0 = true := by kernel_rfl
theorem l6_3 : run3 5 6 3 = true := by kernel_rfl
theorem l9_6 : run3 5 9 6 = true := by kernel_rfl
theorem l10_6 : run3 5 10 6 = true := by kernel_rfl
theorem l13_12 : run3 5 13 12 = true := by kernel_rfl
theorem l14_2 : run3 5 14 2 = true := by kernel_rfl
theorem l14_5 : run3 5 14 5 = true := by kernel_rfl
theorem l17_1 : run3 5 17 1 = true := by kernel_rfl
theorem l17_16 : run3 5 17 16 = true := by kernel_rfl
theorem l18_4 : run3 5 18 4 = true := by kernel_rfl
theorem l19_7 : run3 5 19 7 = true := by kernel_rfl
theorem l20_9 : run3 5 20 9 = true := by kernel_rfl
end Dt
