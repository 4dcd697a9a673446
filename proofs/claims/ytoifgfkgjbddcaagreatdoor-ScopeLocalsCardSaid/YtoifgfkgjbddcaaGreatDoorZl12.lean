/- A part of the abstract machine and of the proof that the program does what it reckons; no conditions. -/
import Derived.Test.YtoifgfkgjbddcaaGreatDoorZx
set_option linter.all false
namespace Dt
open Go
set_option linter.all false
set_option maxRecDepth 100000
theorem f3_2 : rf 3 2 = true := by kernel_rfl
theorem t3_2 : rt 3 2 = true := by kernel_rfl
theorem f6_5 : rf 6 5 = true := by kernel_rfl
theorem t6_5 : rt 6 5 = true := by kernel_rfl
theorem f9_8 : rf 9 8 = true := by kernel_rfl
theorem t9_8 : rt 9 8 = true := by kernel_rfl
theorem f11_1 : rf 11 1 = true := by kernel_rfl
theorem t11_1 : rt 11 1 = true := by kernel_rfl
theorem f12_1 : rf 12 1 = true := by kernel_rfl
theorem t12_1 : rt 12 1 = true := by kernel_rfl
theorem f14_7 : rf 14 7 = true := by kernel_rfl
theorem t14_7 : rt 14 7 = true := by kernel_rfl
theorem f15_1 : rf 15 1 = true := by kernel_rfl
theorem t15_1 : rt 15 1 = true := by kernel_rfl
theorem f16_1 : rf 16 1 = true := by kernel_rfl
theorem t16_1 : rt 16 1 = true := by kernel_rfl
theorem f17_3 : rf 17 3 = true := by kernel_rfl
theorem t17_3 : rt 17 3 = true := by kernel_rfl
theorem f18_6 : rf 18 6 = true := by kernel_rfl
theorem t18_6 : rt 18 6 = true := by kernel_rfl
theorem f19_9 : rf 19 9 = true := by kernel_rfl
theorem t19_9 : rt 19 9 = true := by kernel_rfl
theorem f20_11 : rf 20 11 = true := by kernel_rfl
theorem t20_11 : rt 20 11 = true := by kernel_rfl
end Dt
