/- A part of the abstract machine and of the proof that the program does what it reckons; no conditions. -/
import Derived.Test.YtoifgfkgjbddcaaGreatDoorZx
set_option linter.all false
namespace Dt
open Go
set_option linter.all false
set_option maxRecDepth 100000
theorem f7_6 : rf 7 6 = true := by kernel_rfl
theorem t7_6 : rt 7 6 = true := by kernel_rfl
theorem f9_2 : rf 9 2 = true := by kernel_rfl
theorem t9_2 : rt 9 2 = true := by kernel_rfl
theorem f11_9 : rf 11 9 = true := by kernel_rfl
theorem t11_9 : rt 11 9 = true := by kernel_rfl
theorem f12_9 : rf 12 9 = true := by kernel_rfl
theorem t12_9 : rt 12 9 = true := by kernel_rfl
theorem f13_4 : rf 13 4 = true := by kernel_rfl
theorem t13_4 : rt 13 4 = true := by kernel_rfl
theorem f15_12 : rf 15 12 = true := by kernel_rfl
theorem t15_12 : rt 15 12 = true := by kernel_rfl
theorem f16_12 : rf 16 12 = true := by kernel_rfl
theorem t16_12 : rt 16 12 = true := by kernel_rfl
theorem f17_11 : rf 17 11 = true := by kernel_rfl
theorem t17_11 : rt 17 11 = true := by kernel_rfl
theorem f18_14 : rf 18 14 = true := by kernel_rfl
theorem t18_14 : rt 18 14 = true := by kernel_rfl
theorem f20_1 : rf 20 1 = true := by kernel_rfl
theorem t20_1 : rt 20 1 = true := by kernel_rfl
theorem f20_19 : rf 20 19 = true := by kernel_rfl
theorem t20_19 : rt 20 19 = true := by kernel_rfl
end Dt
