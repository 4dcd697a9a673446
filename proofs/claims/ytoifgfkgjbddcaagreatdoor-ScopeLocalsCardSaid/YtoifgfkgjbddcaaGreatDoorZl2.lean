/- A part of the abstract machine and of the proof that the program does what it reckons; no conditions. -/
import Derived.Test.YtoifgfkgjbddcaaGreatDoorZx
set_option linter.all false
namespace Dt
open Go
set_option linter.all false
set_option maxRecDepth 100000
theorem l7_6 : run3 5 7 6 = true := by kernel_rfl
theorem l9_2 : run3 5 9 2 = true := by kernel_rfl
theorem l11_9 : run3 5 11 9 = true := by kernel_rfl
theorem l12_9 : run3 5 12 9 = true := by kernel_rfl
theorem l13_4 : run3 5 13 4 = true := by kernel_rfl
theorem l15_12 : run3 5 15 12 = true := by kernel_rfl
theorem l16_12 : run3 5 16 12 = true := by kernel_rfl
theorem l17_11 : run3 5 17 11 = true := by kernel_rfl
theorem l18_14 : run3 5 18 14 = true := by kernel_rfl
theorem l20_1 : run3 5 20 1 = true := by kernel_rfl
theorem l20_19 : run3 5 20 19 = true := by kernel_rfl
end Dt
