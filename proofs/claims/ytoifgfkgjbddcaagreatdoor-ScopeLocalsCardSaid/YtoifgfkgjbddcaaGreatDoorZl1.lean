/- A part of the abstract machine and of the proof that the program does what it reckons; no conditions. -/
import Derived.Test.YtoifgfkgjbddcaaGreatDoorZx
set_option linter.all false
namespace Dt
open Go
set_option linter.all false
set_option maxRecDepth 100000
theorem f7_5 : rf 7 5 = true := by kernel_rfl
theorem t7_5 : rt 7 5 = true := by kernel_rfl
theorem f9_1 : rf 9 1 = true := by kernel_rfl
theorem t9_1 : rt 9 1 = true := by kernel_rfl
theorem f11_8 : rf 11 8 = true := by kernel_rfl
theorem t11_8 : rt 11 8 = true := by kernel_rfl
theorem f12_8 : rf 12 8 = true := by kernel_rfl
theorem t12_8 : rt 12 8 = true := by kernel_rfl
theorem f13_3 : rf 13 3 = true := by kernel_rfl
theorem t13_3 : rt 13 3 = true := by kernel_rfl
theorem f15_11 : rf 15 11 = true := by kernel_rfl
theorem t15_11 : rt 15 11 = true := by kernel_rfl
theorem f16_11 : rf 16 11 = true := by kernel_rfl
theorem t16_11 : rt 16 11 = true := by kernel_rfl
theorem f17_10 : rf 17 10 = true := by kernel_rfl
theorem t17_10 : rt 17 10 = true := by kernel_rfl
theorem f18_13 : rf 18 13 = true := by kernel_rfl
theorem t18_13 : rt 18 13 = true := by kernel_rfl
theorem f20_0 : rf 20 0 = true := by kernel_rfl
theorem t20_0 : rt 20 0 = true := by kernel_rfl
theorem f20_18 : rf 20 18 = true := by kernel_rfl
theorem t20_18 : rt 20 18 = true := by kernel_rfl
end Dt
