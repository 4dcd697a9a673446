/- A part of the abstract machine and of the proof that the program does what it reckons; no conditions. -/
import Derived.Test.YtoifgfkgjbddcaaGreatDoorZx
set_option linter.all false
namespace Dt
open Go
set_option linter.all false
set_option maxRecDepth 100000
theorem l2_1 : run3 5 2 1 = true := by kernel_rfl
theorem l7_1 : run3 5 7 1 = true := by kernel_rfl
theorem l8_3 : run3 5 8 3 = true := by kernel_rfl
theorem l11_5 : run3 5 11 5 = true := by kernel_rfl
theorem l12_5 : run3 5 12 5 = true := by kernel_rfl
theorem l14_11 : run3 5 14 11 = true := by kernel_rfl
theorem l15_5 : run3 5 15 5 = true := by kernel_rfl
theorem l16_5 : run3 5 16 5 = true := by kernel_rfl
theorem l17_7 : run3 5 17 7 = true := by kernel_rfl
theorem l18_10 : run3 5 18 10 = true := by kernel_rfl
theorem l19_13 : run3 5 19 13 = true := by kernel_rfl
theorem l20_15 : run3 5 20 15 = true := by kernel_rfl
end Dt
