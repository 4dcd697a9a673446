/- A part of the abstract machine and of the proof that the program does what it reckons; no conditions. -/
import Derived.Test.YtoifgfkgjbddcaaGreatDoorZx
set_option linter.all false
namespace Dt
open Go
set_option linter.all false
set_option maxRecDepth 100000
theorem l4_1 : run3 5 4 1 = true := by kernel_rfl
theorem l6_0 : run3 5 6 0 = true := by kernel_rfl
theorem l9_3 : run3 5 9 3 = true := by kernel_rfl
theorem l11_10 : run3 5 11 10 = true := by kernel_rfl
theorem l12_10 : run3 5 12 10 = true := by kernel_rfl
theorem l13_5 : run3 5 13 5 = true := by kernel_rfl
theorem l15_13 : run3 5 15 13 = true := by kernel_rfl
theorem l16_13 : run3 5 16 13 = true := by kernel_rfl
theorem l17_12 : run3 5 17 12 = true := by kernel_rfl
theorem l19_0 : run3 5 19 0 = true := by kernel_rfl
theorem l19_16 : run3 5 19 16 = true := by kernel_rfl
theorem l20_2 : run3 5 20 2 = true := by kernel_rfl
end Dt
