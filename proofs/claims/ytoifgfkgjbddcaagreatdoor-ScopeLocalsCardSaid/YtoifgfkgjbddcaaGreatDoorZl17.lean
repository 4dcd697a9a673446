/- A part of the abstract machine and of the proof that the program does what it reckons; no conditions. -/
import Derived.Test.YtoifgfkgjbddcaaGreatDoorZx
set_option linter.all false
namespace Dt
open Go
set_option linter.all false
set_option maxRecDepth 100000
theorem l1_0 : run3 5 1 0 = true := by kernel_rfl
theorem l7_2 : run3 5 7 2 = true := by kernel_rfl
theorem l8_4 : run3 5 8 4 = true := by kernel_rfl
theorem l11_6 : run3 5 11 6 = true := by kernel_rfl
theorem l12_6 : run3 5 12 6 = true := by kernel_rfl
theorem l14_12 : run3 5 14 12 = true := by kernel_rfl
theorem l15_6 : run3 5 15 6 = true := by kernel_rfl
theorem l16_6 : run3 5 16 6 = true := by kernel_rfl
theorem l17_8 : run3 5 17 8 = true := by kernel_rfl
theorem l18_11 : run3 5 18 11 = true := by kernel_rfl
theorem l19_14 : run3 5 19 14 = true := by kernel_rfl
theorem l20_16 : run3 5 20 16 = true := by kernel_rfl
end Dt
