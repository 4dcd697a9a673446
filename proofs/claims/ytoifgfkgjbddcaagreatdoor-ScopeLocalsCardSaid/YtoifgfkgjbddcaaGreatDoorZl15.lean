/- A part of the abstract machine and of the proof that the program does what it reckons; no conditions. -/
import Derived.Test.YtoifgfkgjbddcaaGreatDoorZx
set_option linter.all false
namespace Dt
open Go
set_option linter.all false
set_option maxRecDepth 100000
theorem l2_0 : run3 5 2 0 = true := by kernel_rfl
theorem l7_0 : run3 5 7 0 = true := by kernel_rfl
theorem l8_2 : run3 5 8 2 = true := by kernel_rfl
theorem l11_4 : run3 5 11 4 = true := by kernel_rfl
theorem l12_4 : run3 5 12 4 = true := by kernel_rfl
theorem l14_10 : run3 5 14 10 = true := by kernel_rfl
theorem l15_4 : run3 5 15 4 = true := by kernel_rfl
theorem l16_4 : run3 5 16 4 = true := by kernel_rfl
theorem l17_6 : run3 5 17 6 = true := by kernel_rfl
theorem l18_9 : run3 5 18 9 = true := by kernel_rfl
theorem l19_12 : run3 5 19 12 = true := by kernel_rfl
theorem l20_14 : run3 5 20 14 = true := by kernel_rfl
end Dt
