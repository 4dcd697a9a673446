/- A part of the abstract machine and of the proof that the program does what it reckons; no conditions. -/
import Derived.Test.YtoifgfkgjbddcaaGreatDoorZx
set_option linter.all false
namespace Dt
open Go
set_option linter.all false
set_option maxRecDepth 100000
theorem l4_2 : run3 5 4 2 = true := by kernel_rfl
theorem l6_1 : run3 5 6 1 = true := by kernel_rfl
theorem l9_4 : run3 5 9 4 = true := by kernel_rfl
theorem l10_4 : run3 5 10 4 = true := by kernel_rfl
theorem l13_10 : run3 5 13 10 = true := by kernel_rfl
theorem l14_0 : run3 5 14 0 = true := by kernel_rfl
theorem l14_3 : run3 5 14 3 = true := by kernel_rfl
theorem l16_15 : run3 5 16 15 = true := by kernel_rfl
theorem l17_14 : run3 5 17 14 = true := by kernel_rfl
theorem l19_2 : run3 5 19 2 = true := by kernel_rfl
theorem l19_18 : run3 5 19 18 = true := by kernel_rfl
theorem l20_4 : run3 5 20 4 = true := by kernel_rfl
end Dt
