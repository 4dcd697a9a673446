/- A part of the abstract machine and of the proof that the program does what it reckons; no conditions. -/
import Derived.Test.YtoifgfkgjbddcaaGreatDoorZx
set_option linter.all false
namespace Dt
open Go
set_option linter.all false
set_option maxRecDepth 100000
theorem f3_1 : rf 3 1 = true := by kernel_rfl
theorem t3_1 : rt 3 1 = true := by kernel_rfl
theorem f6_4 : rf 6 4 = true := by kernel_rfl
theorem t6_4 : rt 6 4 = true := by kernel_rfl
theorem f9_7 : rf 9 7 = true := by kernel_rfl
theorem t9_7 : rt 9 7 = true := by kernel_rfl
theorem f11_0 : rf 11 0 = true := by kernel_rfl
theorem t11_0 : rt 11 0 = true := by kernel_rfl
theorem f12_0 : rf 12 0 = true := by kernel_rfl
theorem t12_0 : rt 12 0 = true := by kernel_rfl
theorem f14_6 : rf 14 6 = true := by kernel_rfl
theorem t14_6 : rt 14 6 = true := by kernel_rfl
theorem f15_0 : rf 15 0 = true := by kernel_rfl
theorem t15_0 : rt 15 0 = true := by kernel_rfl
theorem f16_0 : rf 16 0 = true := by kernel_rfl
theorem t16_0 : rt 16 0 = true := by kernel_rfl
theorem f17_2 : rf 17 2 = true := by kernel_rfl
theorem t17_2 : rt 17 2 = true := by kernel_rfl
theorem f18_5 : rf 18 5 = true := by kernel_rfl
theorem t18_5 : rt 18 5 = true := by kernel_rfl
theorem f19_8 : rf 19 8 = true := by kernel_rfl
theorem t19_8 : rt 19 8 = true := by kernel_rfl
theorem f20_10 : rf 20 10 = true := by kernel_rfl
theorem t20_10 : rt 20 10 = true := by kernel_rfl
end Dt
