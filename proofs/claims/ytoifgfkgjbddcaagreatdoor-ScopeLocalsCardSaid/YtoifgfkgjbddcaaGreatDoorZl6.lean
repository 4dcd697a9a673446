/- A part of the abstract machine and of the proof that the program does what it reckons; no conditions. -/
import Derived.Test.YtoifgfkgjbddcaaGreatDoorZx
set_option linter.all false
namespace Dt
open Go
set_option linter.all false
set_option maxRecDepth 100000
theorem l5_1 : run3 5 5 1 = true := by kernel_rfl
theorem l5_4 : run3 5 5 4 = true := by kernel_rfl
theorem l10_1 : run3 5 10 1 = true := by kernel_rfl
theorem l10_8 : run3 5 10 8 = true := by kernel_rfl
theorem l13_0 : run3 5 13 0 = true := by kernel_rfl
theorem l13_7 : run3 5 13 7 = true := by kernel_rfl
theorem l15_8 : run3 5 15 8 = true := by kernel_rfl
theorem l16_8 : run3 5 16 8 = true := by kernel_rfl
theorem l18_0 : run3 5 18 0 = true := by kernel_rfl
theorem l18_15 : run3 5 18 15 = true := by kernel_rfl
theorem l19_3 : run3 5 19 3 = true := by kernel_rfl
theorem l20_5 : run3 5 20 5 = true := by kernel_rfl
end Dt
