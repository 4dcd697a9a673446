/- A part of the abstract machine and of the proof that the program does what it reckons; no conditions. -/
import Derived.Test.YtoifgfkgjbddcaaGreatDoorZx
set_option linter.all false
namespace Dt
open Go
set_option linter.all false
set_option maxRecDepth 100000
theorem f7_3 : rf 7 3 = true := by kernel_rfl
theorem t7_3 : rt 7 3 = true := by kernel_rfl
theorem f8_5 : rf 8 5 = true := by kernel_rfl
theorem t8_5 : rt 8 5 = true := by kernel_rfl
theorem f11_7 : rf 11 7 = true := by kernel_rfl
theorem t11_7 : rt 11 7 = true := by kernel_rfl
theorem f12_7 : rf 12 7 = true := by kernel_rfl
theorem t12_7 : rt 12 7 = true := by kernel_rfl
theorem f14_13 : rf 14 13 = true := by kernel_rfl
theorem t14_13 : rt 14 13 = true := by kernel_rfl
theorem f15_7 : rf 15 7 = true := by kernel_rfl
theorem t15_7 : rt 15 7 = true := by kernel_rfl
theorem f16_7 : rf 16 7 = true := by kernel_rfl
theorem t16_7 : rt 16 7 = true := by kernel_rfl
theorem f17_9 : rf 17 9 = true := by kernel_rfl
theorem t17_9 : rt 17 9 = true := by kernel_rfl
theorem f18_12 : rf 18 12 = true := by kernel_rfl
theorem t18_12 : rt 18 12 = true := by kernel_rfl
theorem f19_15 : rf 19 15 = true := by kernel_rfl
theorem t19_15 : rt 19 15 = true := by kernel_rfl
theorem f20_17 : rf 20 17 = true := by kernel_rfl
theorem t20_17 : rt 20 17 = true := by kernel_rfl
end Dt
