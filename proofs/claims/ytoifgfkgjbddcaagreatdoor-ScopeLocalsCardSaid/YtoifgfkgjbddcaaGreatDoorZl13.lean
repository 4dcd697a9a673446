/- A part of the abstract machine and of the proof that the program does what it reckons; no conditions. -/
import Derived.Test.YtoifgfkgjbddcaaGreatDoorZx
set_option linter.all false
namespace Dt
open Go
set_option linter.all false
set_option maxRecDepth 100000
theorem f8_0 : rf 8 0 = true := by kernel_rfl
theorem t8_0 : rt 8 0 = true := by kernel_rfl
theorem f8_6 : rf 8 6 = true := by kernel_rfl
theorem t8_6 : rt 8 6 = true := by kernel_rfl
theorem f11_2 : rf 11 2 = true := by kernel_rfl
theorem t11_2 : rt 11 2 = true := by kernel_rfl
theorem f12_2 : rf 12 2 = true := by kernel_rfl
theorem t12_2 : rt 12 2 = true := by kernel_rfl
theorem f14_8 : rf 14 8 = true := by kernel_rfl
theorem t14_8 : rt 14 8 = true := by kernel_rfl
theorem f15_2 : rf 15 2 = true := by kernel_rfl
theorem t15_2 : rt 15 2 = true := by kernel_rfl
theorem f16_2 : rf 16 2 = true := by kernel_rfl
theorem t16_2 : rt 16 2 = true := by kernel_rfl
theorem f17_4 : rf 17 4 = true := by kernel_rfl
theorem t17_4 : rt 17 4 = true := by kernel_rfl
theorem f18_7 : rf 18 7 = true := by kernel_rfl
theorem t18_7 : rt 18 7 = true := by kernel_rfl
theorem f19_10 : rf 19 10 = true := by kernel_rfl
theorem t19_10 : rt 19 10 = true := by kernel_rfl
theorem f20_12 : rf 20 12 = true := by kernel_rfl
theorem t20_12 : rt 20 12 = true := by kernel_rfl
end Dt
