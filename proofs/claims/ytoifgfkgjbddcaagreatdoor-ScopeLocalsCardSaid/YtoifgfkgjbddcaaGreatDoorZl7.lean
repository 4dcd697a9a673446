/- A part of the abstract machine and of the proof that the program does what it reckons; no conditions. -/
import Derived.Test.YtoifgfkgjbddcaaGreatDoorZx
set_option linter.all false
namespace Dt
open Go
set_option linter.all false
set_option maxRecDepth 100000
theorem l4_0 : run3 5 4 0 = true := by kernel_rfl
theorem l5_2 : run3 5 5 2 = true := by kernel_rfl
theorem l10_2 : run3 5 10 2 = true := by kernel_rfl
theorem l10_9 : run3 5 10 9 = true := by kernel_rfl
theorem l13_1 : run3 5 13 1 = true := by kernel_rfl
theorem l13_8 : run3 5 13 8 = true := by kernel_rfl
theorem l15_9 : run3 5 15 9 = true := by kernel_rfl
theorem l16_9 : run3 5 16 9 = true := by kernel_rfl
theorem l18_1 : run3 5 18 1 = true := by kernel_rfl
theorem l18_16 : run3 5 18 16 = true := by kernel_rfl
theorem l19_4 : run3 5 19 4 = true := by kernel_rfl
theorem l20_6 : run3 5 20 6 = true := by kernel_rfl
end Dt
