/- A part of the abstract machine and of the proof that the program does what it reckons; no conditions. -/
import Derived.Test.YtoifgfkgjbddcaaGreatDoorZx
set_option linter.all false
namespace Dt
open Go
set_option linter.all false
set_option maxRecDepth 100000
theorem f8_1 : rf 8 1 = true := by kernel_rfl
theorem t8_1 : rt 8 1 = true := by kernel_rfl
theorem f8_7 : rf 8 7 = true := by kernel_rfl
theorem t8_7 : rt 8 7 = true := by kernel_rfl
theorem f11_3 : rf 11 3 = true := by kernel_rfl
theorem t11_3 : rt 11 3 = true := by kernel_rfl
theorem f12_3 : rf 12 3 = true := by kernel_rfl
theorem t12_3 : rt 12 3 = true := by kernel_rfl
theorem f14_9 : rf 14 9 = true := by kernel_rfl
theorem t14_9 : rt 14 9 = true := by kernel_rfl
theorem f15_3 : rf 15 3 = true := by kernel_rfl
theorem t15_3 : rt 15 3 = true := by kernel_rfl
theorem f16_3 : rf 16 3 = true := by kernel_rfl
theorem t16_3 : rt 16 3 = true := by kernel_rfl
theorem f17_5 : rf 17 5 = true := by kernel_rfl
theorem t17_5 : rt 17 5 = true := by kernel_rfl
theorem f18_8 : rf 18 8 = true := by kernel_rfl
theorem t18_8 : rt 18 8 = true := by kernel_rfl
theorem f19_11 : rf 19 11 = true := by kernel_rfl
theorem t19_11 : rt 19 11 = true := by kernel_rfl
theorem f20_13 : rf 20 13 = true := by kernel_rfl
theorem t20_13 : rt 20 13 = true := by kernel_rfl
end Dt
