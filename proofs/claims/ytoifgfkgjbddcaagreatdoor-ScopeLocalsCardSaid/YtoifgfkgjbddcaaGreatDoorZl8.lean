/- A part of the abstract machine and of the proof that the program does what it reckons; no conditions. -/
import Derived.Test.YtoifgfkgjbddcaaGreatDoorZx
set_option linter.all false
namespace Dt
open Go
set_option linter.all false
set_option maxRecDepth 100000
theorem l7_4 : run3 5 7 4 = true := by kernel_rfl
theorem l9_0 : run3 5 9 0 = true := by kernel_rfl
theorem l10_3 : run3 5 10 3 = true := by kernel_rfl
theorem l13_2 : run3 5 13 2 = true := by kernel_rfl
theorem l13_9 : run3 5 13 9 = true := by kernel_rfl
theorem l15_10 : run3 5 15 10 = true := by kernel_rfl
theorem l16_10 : run3 5 16 10 = true := by kernel_rfl
theorem l18_2 : run3 5 18 2 = true := by kernel_rfl
theorem l18_17 : run3 5 18 17 = true := by kernel_rfl
theorem l19_5 : run3 5 19 5 = true := by kernel_rfl
theorem l20_7 : run3 5 20 7 = true := by kernel_rfl
end Dt
