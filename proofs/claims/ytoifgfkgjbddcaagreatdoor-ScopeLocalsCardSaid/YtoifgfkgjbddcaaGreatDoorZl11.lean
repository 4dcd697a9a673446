/- A part of the abstract machine and of the proof that the program does what it reckons; no conditions. -/
import Derived.Test.YtoifgfkgjbddcaaGreatDoorZx
set_option linter.all false
namespace Dt
open Go
set_option linter.all false
set_option maxRecDepth 100000
theorem l3_1 : run3 5 3 1 = true := by kernel_rfl
theorem l6_4 : run3 5 6 4 = true := by kernel_rfl
theorem l9_7 : run3 5 9 7 = true := by kernel_rfl
theorem l11_0 : run3 5 11 0 = true := by kernel_rfl
theorem l12_0 : run3 5 12 0 = true := by kernel_rfl
theorem l14_6 : run3 5 14 6 = true := by kernel_rfl
theorem l15_0 : run3 5 15 0 = true := by kernel_rfl
theorem l16_0 : run3 5 16 0 = true := by kernel_rfl
theorem l17_2 : run3 5 17 2 = true := by kernel_rfl
theorem l18_5 : run3 5 18 5 = true := by kernel_rfl
theorem l19_8 : run3 5 19 8 = true := by kernel_rfl
theorem l20_10 : run3 5 20 10 = true := by kernel_rfl
end Dt
