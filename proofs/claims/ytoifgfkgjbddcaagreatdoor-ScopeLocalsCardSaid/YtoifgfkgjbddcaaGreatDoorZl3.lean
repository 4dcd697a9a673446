/- A part of the abstract machine and of the proof that the program does what it reckons; no conditions. -/
import Derived.Test.YtoifgfkgjbddcaaGreatDoorZx
set_option linter.all false
namespace Dt
open Go
set_option linter.all false
set_option maxRecDepth 100000
theorem f4_1 : rf 4 1 = true := by kernel_rfl
theorem t4_1 : rt 4 1 = true := by kernel_rfl
theorem f6_0 : rf 6 0 = true := by kernel_rfl
theorem t6_0 : rt 6 0 = true := by kernel_rfl
theorem f9_3 : rf 9 3 = true := by kernel_rfl
theorem t9_3 : rt 9 3 = true := by kernel_rfl
theorem f11_10 : rf 11 10 = true := by kernel_rfl
theorem t11_10 : rt 11 10 = true := by kernel_rfl
theorem f12_10 : rf 12 10 = true := by kernel_rfl
theorem t12_10 : rt 12 10 = true := by kernel_rfl
theorem f13_5 : rf 13 5 = true := by kernel_rfl
theorem t13_5 : rt 13 5 = true := by kernel_rfl
theorem f15_13 : rf 15 13 = true := by kernel_rfl
theorem t15_13 : rt 15 13 = true := by kernel_rfl
theorem f16_13 : rf 16 13 = true := by kernel_rfl
theorem t16_13 : rt 16 13 = true := by kernel_rfl
theorem f17_12 : rf 17 12 = true := by kernel_rfl
theorem t17_12 : rt 17 12 = true := by kernel_rfl
theorem f19_0 : rf 19 0 = true := by kernel_rfl
theorem t19_0 : rt 19 0 = true := by kernel_rfl
theorem f19_16 : rf 19 16 = true := by kernel_rfl
theorem t19_16 : rt 19 16 = true := by kernel_rfl
theorem f20_2 : rf 20 2 = true := by kernel_rfl
theorem t20_2 : rt 20 2 = true := by kernel_rfl
end Dt
