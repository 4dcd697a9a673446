/- A part of the abstract machine and of the proof that the program does what it reckons; no conditions. -/
import Derived.Test.YtoifgfkgjbddcaaGreatDoorZx
set_option linter.all false
namespace Dt
open Go
set_option linter.all false
set_option maxRecDepth 100000
theorem f2_0 : rf 2 0 = true := by kernel_rfl
theorem t2_0 : rt 2 0 = true := by kernel_rfl
theorem f7_0 : rf 7 0 = true := by kernel_rfl
theorem t7_0 : rt 7 0 = true := by kernel_rfl
theorem f8_2 : rf 8 2 = true := by kernel_rfl
theorem t8_2 : rt 8 2 = true := by kernel_rfl
theorem f11_4 : rf 11 4 = true := by kernel_rfl
theorem t11_4 : rt 11 4 = true := by kernel_rfl
theorem f12_4 : rf 12 4 = true := by kernel_rfl
theorem t12_4 : rt 12 4 = true := by kernel_rfl
theorem f14_10 : rf 14 10 = true := by kernel_rfl
theorem t14_10 : rt 14 10 = true := by kernel_rfl
theorem f15_4 : rf 15 4 = true := by kernel_rfl
theorem t15_4 : rt 15 4 = true := by kernel_rfl
theorem f16_4 : rf 16 4 = true := by kernel_rfl
theorem t16_4 : rt 16 4 = true := by kernel_rfl
theorem f17_6 : rf 17 6 = true := by kernel_rfl
theorem t17_6 : rt 17 6 = true := by kernel_rfl
theorem f18_9 : rf 18 9 = true := by kernel_rfl
theorem t18_9 : rt 18 9 = true := by kernel_rfl
theorem f19_12 : rf 19 12 = true := by kernel_rfl
theorem t19_12 : rt 19 12 = true := by kernel_rfl
theorem f20_14 : rf 20 14 = true := by kernel_rfl
theorem t20_14 : rt 20 14 = true := by kernel_rfl
end Dt
