/- A part of the abstract machine and of the proof that the program does what it reckons; no conditions. -/
import Derived.Test.YtoifgfkgjbddcaaGreatDoorZx
set_option linter.all false
namespace Dt
open Go
set_option linter.all false
set_option maxRecDepth 100000
theorem l4_3 : run3 5 4 3 = true := by kernel_rfl
theorem l6_2 : run3 5 6 2 = true := by kernel_rfl
theorem l9_5 : run3 5 9 5 = true := by kernel_rfl
theorem l10_5 : run3 5 10 5 = true := by kernel_rfl
theorem l13_11 : run3 5 13 11 = true := by kernel_rfl
theorem l14_1 : run3 5 14 1 = true := by kernel_rfl
theorem l14_4 : run3 5 14 4 = true := by kernel_rfl
theorem l17_0 : run3 5 17 0 = true := by kernel_rfl
theorem l17_15 : run3 5 17 15 = true := by kernel_rfl
theorem l18_3 : run3 5 18 3 = true := by kernel_rfl
theorem l19_6 : run3 5 19 6 = true := by kernel_rfl
theorem l20_8 : run3 5 20 8 = true := by kernel_rfl
end Dt
