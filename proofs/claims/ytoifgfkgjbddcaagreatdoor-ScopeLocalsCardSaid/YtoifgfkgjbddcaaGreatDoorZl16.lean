/- A part of the abstract machine and of the proof that the program does what it reckons; no conditions. -/
import Derived.Test.YtoifgfkgjbddcaaGreatDoorZx
set_option linter.all false
namespace Dt
open Go
set_option linter.all false
set_option maxRecDepth 100000
theorem f2_1 : rf 2 1 = true := by kernel_rfl
theorem t2_1 : rt 2 1 = true := by kernel_rfl
theorem f7_1 : rf 7 1 = true := by kernel_rfl
theorem t7_1 : rt 7 1 = true := by kernel_rfl
theorem f8_3 : rf 8 3 = true := by kernel_rfl
theorem t8_3 : rt 8 3 = true := by kernel_rfl
theorem f11_5 : rf 11 5 = true := by kernel_rfl
theorem t11_5 : rt 11 5 = true := by kernel_rfl
theorem f12_5 : rf 12 5 = true := by kernel_rfl
theorem t12_5 : rt 12 5 = true := by kernel_rfl
theorem f14_11 : rf 14 11 = true := by kernel_rfl
theorem t14_11 : rt 14 11 = true := by kernel_rfl
theorem f15_5 : rf 15 5 = true := by kernel_rfl
theorem t15_5 : rt 15 5 = true := by kernel_rfl
theorem f16_5 : rf 16 5 = true := by kernel_rfl
theorem t16_5 : rt 16 5 = true := by kernel_rfl
theorem f17_7 : rf 17 7 = true := by kernel_rfl
theorem t17_7 : rt 17 7 = true := by kernel_rfl
theorem f18_10 : rf 18 10 = true := by kernel_rfl
theorem t18_10 : rt 18 10 = true := by kernel_rfl
theorem f19_13 : rf 19 13 = true := by kernel_rfl
theorem t19_13 : rt 19 13 = true := by kernel_rfl
theorem f20_15 : rf 20 15 = true := by kernel_rfl
theorem t20_15 : rt 20 15 = true := by kernel_rfl
end Dt
