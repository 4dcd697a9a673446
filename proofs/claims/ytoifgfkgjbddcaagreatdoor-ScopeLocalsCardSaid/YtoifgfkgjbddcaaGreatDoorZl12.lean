/- A part of the abstract machine and of the proof that the program does what it reckons; no conditions. -/
import Derived.Test.YtoifgfkgjbddcaaGreatDoorZx
set_option linter.all false
namespace Dt
open Go
set_option linter.all false
set_option maxRecDepth 100000
theorem l3_2 : run3 5 3 2 = true := by kernel_rfl
theorem l6_5 : run3 5 6 5 = true := by kernel_rfl
theorem l9_8 : run3 5 9 8 = true := by kernel_rfl
theorem l11_1 : run3 5 11 1 = true := by kernel_rfl
theorem l12_1 : run3 5 12 1 = true := by kernel_rfl
theorem l14_7 : run3 5 14 7 = true := by kernel_rfl
theorem l15_1 : run3 5 15 1 = true := by kernel_rfl
theorem l16_1 : run3 5 16 1 = true := by kernel_rfl
theorem l17_3 : run3 5 17 3 = true := by kernel_rfl
theorem l18_6 : run3 5 18 6 = true := by kernel_rfl
theorem l19_9 : run3 5 19 9 = true := by kernel_rfl
theorem l20_11 : run3 5 20 11 = true := by kernel_rfl
end Dt
