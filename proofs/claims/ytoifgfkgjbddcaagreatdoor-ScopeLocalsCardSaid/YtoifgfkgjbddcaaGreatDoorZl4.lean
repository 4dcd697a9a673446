/- A part of the abstract machine and of the proof that the program does what it reckons; no conditions. -/
import Derived.Test.YtoifgfkgjbddcaaGreatDoorZx
set_option linter.all false
namespace Dt
open Go
set_option linter.all false
set_option maxRecDepth 100000
theorem l5_0 : run3 5 5 0 = true := by kernel_rfl
theorem l5_3 : run3 5 5 3 = true := by kernel_rfl
theorem l10_0 : run3 5 10 0 = true := by kernel_rfl
theorem l10_7 : run3 5 10 7 = true := by kernel_rfl
theorem l12_11 : run3 5 12 11 = true := by kernel_rfl
theorem l13_6 : run3 5 13 6 = true := by kernel_rfl
theorem l15_14 : run3 5 15 14 = true := by kernel_rfl
theorem l16_14 : run3 5 16 14 = true := by kernel_rfl
theorem l17_13 : run3 5 17 13 = true := by kernel_rfl
theorem l19_1 : run3 5 19 1 = true := by kernel_rfl
theorem l19_17 : run3 5 19 17 = true := by kernel_rfl
theorem l20_3 : run3 5 20 3 = true := by kernel_rfl
end Dt
