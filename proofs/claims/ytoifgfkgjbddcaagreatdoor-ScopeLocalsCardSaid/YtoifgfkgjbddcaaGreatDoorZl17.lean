/- A part of the abstract machine and of the proof that the program does what it reckons; no conditions. -/
import Derived.Test.YtoifgfkgjbddcaaGreatDoorZx
set_option linter.all false
namespace Dt
open Go
set_option linter.all false
set_option maxRecDepth 100000
theorem f1_0 : rf 1 0 = true := by kernel_rfl
theorem t1_0 : rt 1 0 = true := by kernel_rfl
theorem f7_2 : rf 7 2 = true := by kernel_rfl
theorem t7_2 : rt 7 2 = true := by kernel_rfl
theorem f8_4 : rf 8 4 = true := by kernel_rfl
theorem t8_4 : rt 8 4 = true := by kernel_rfl
theorem f11_6 : rf 11 6 = true := by kernel_rfl
theorem t11_6 : rt 11 6 = true := by kernel_rfl
theorem f12_6 : rf 12 6 = true := by kernel_rfl
theorem t12_6 : rt 12 6 = true := by kernel_rfl
theorem f14_12 : rf 14 12 = true := by kernel_rfl
theorem t14_12 : rt 14 12 = true := by kernel_rfl
theorem f15_6 : rf 15 6 = true := by kernel_rfl
theorem t15_6 : rt 15 6 = true := by kernel_rfl
theorem f16_6 : rf 16 6 = true := by kernel_rfl
theorem t16_6 : rt 16 6 = true := by kernel_rfl
theorem f17_8 : rf 17 8 = true := by kernel_rfl
theorem t17_8 : rt 17 8 = true := by kernel_rfl
theorem f18_11 : rf 18 11 = true := by kernel_rfl
theorem t18_11 : rt 18 11 = true := by kernel_rfl
theorem f19_14 : rf 19 14 = true := by kernel_rfl
theorem t19_14 : rt 19 14 = true := by kernel_rfl
theorem f20_16 : rf 20 16 = true := by kernel_rfl
theorem t20_16 : rt 20 16 = true := by kernel_rfl
end Dt
