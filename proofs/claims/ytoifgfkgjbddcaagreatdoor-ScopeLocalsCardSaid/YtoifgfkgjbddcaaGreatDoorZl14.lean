/- A part of the abstract machine and of the proof that the program does what it reckons; no conditions. -/
import Derived.Test.YtoifgfkgjbddcaaGreatDoorZx
set_option linter.all false
namespace Dt
open Go
set_option linter.all false
set_option maxRecDepth 100000
theorem l8_1 : run3 5 8 1 = true := by kernel_rfl
theorem l8_7 : run3 5 8 7 = true := by kernel_rfl
theorem l11_3 : run3 5 11 3 = true := by kernel_rfl
theorem l12_3 : run3 5 12 3 = true := by kernel_rfl
theorem l14_9 : run3 5 14 9 = true := by kernel_rfl
theorem l15_3 : run3 5 15 3 = true := by kernel_rfl
theorem l16_3 : run3 5 16 3 = true := by kernel_rfl
theorem l17_5 : run3 5 17 5 = true := by kernel_rfl
theorem l18_8 : run3 5 18 8 = true := by kernel_rfl
theorem l19_11 : run3 5 19 11 = true := by kernel_rfl
theorem l20_13 : run3 5 20 13 = true := by kernel_rfl
end Dt
