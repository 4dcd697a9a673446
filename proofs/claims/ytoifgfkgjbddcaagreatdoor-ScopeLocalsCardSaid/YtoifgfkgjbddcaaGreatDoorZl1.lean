/- A part of the abstract machine and of the proof that the program does what it reckons; no conditions. -/
import Derived.Test.YtoifgfkgjbddcaaGreatDoorZx
set_option linter.all false
namespace Dt
open Go
set_option linter.all false
set_option maxRecDepth 100000
theorem l7_5 : run3 5 7 5 = true := by kernel_rfl
theorem l9_1 : run3 5 9 1 = true := by kernel_rfl
theorem l11_8 : run3 5 11 8 = true := by kernel_rfl
theorem l12_8 : run3 5 12 8 = true := by kernel_rfl
theorem l13_3 : run3 5 13 3 = true := by kernel_rfl
theorem l15_11 : run3 5 15 11 = true := by kernel_rfl
theorem l16_11 : run3 5 16 11 = true := by kernel_rfl
theorem l17_10 : run3 5 17 10 = true := by kernel_rfl
theorem l18_13 : run3 5 18 13 = true := by kernel_rfl
theorem l20_0 : run3 5 20 0 = true := by kernel_rfl
theorem l20_18 : run3 5 20 18 = true := by kernel_rfl
end Dt
