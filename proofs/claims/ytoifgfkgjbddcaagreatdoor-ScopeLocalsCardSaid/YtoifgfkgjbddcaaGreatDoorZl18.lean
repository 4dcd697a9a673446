/- A part of the abstract machine and of the proof that the program does what it reckons; no conditions. -/
import Derived.Test.YtoifgfkgjbddcaaGreatDoorZx
set_option linter.all false
namespace Dt
open Go
set_option linter.all false
set_option maxRecDepth 100000
theorem l7_3 : run3 5 7 3 = true := by kernel_rfl
theorem l8_5 : run3 5 8 5 = true := by kernel_rfl
theorem l11_7 : run3 5 11 7 = true := by kernel_rfl
theorem l12_7 : run3 5 12 7 = true := by kernel_rfl
theorem l14_13 : run3 5 14 13 = true := by kernel_rfl
theorem l15_7 : run3 5 15 7 = true := by kernel_rfl
theorem l16_7 : run3 5 16 7 = true := by kernel_rfl
theorem l17_9 : run3 5 17 9 = true := by kernel_rfl
theorem l18_12 : run3 5 18 12 = true := by kernel_rfl
theorem l19_15 : run3 5 19 15 = true := by kernel_rfl
theorem l20_17 : run3 5 20 17 = true := by kernel_rfl
end Dt
