/- A part of the abstract machine and of the proof that the program does what it reckons; no conditions. -/
import Derived.Test.YtoifgfkgjbddcaaGreatDoorZx
set_option linter.all false
namespace Dt
open Go
set_option linter.all false
set_option maxRecDepth 100000
theorem l8_0 : run3 5 8 0 = true := by kernel_rfl
theorem l8_6 : run3 5 8 6 = true := by kernel_rfl
theorem l11_2 : run3 5 11 2 = true := by kernel_rfl
theorem l12_2 : run3 5 12 2 = true := by kernel_rfl
theorem l14_8 : run3 5 14 8 = true := by kernel_rfl
theorem l15_2 : run3 5 15 2 = true := by kernel_rfl
theorem l16_2 : run3 5 16 2 = true := by kernel_rfl
theorem l17_4 : run3 5 17 4 = true := by kernel_rfl
theorem l18_7 : run3 5 18 7 = true := by kernel_rfl
theorem l19_10 : run3 5 19 10 = true := by kernel_rfl
theorem l20_12 : run3 5 20 12 = true := by kernel_rfl
end Dt
