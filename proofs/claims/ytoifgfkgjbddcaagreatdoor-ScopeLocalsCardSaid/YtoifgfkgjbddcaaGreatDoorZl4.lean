/- A part of the abstract machine and of the proof that the program does what it reckons; no conditions. -/
import Derived.Test.YtoifgfkgjbddcaaGreatDoorZx
set_option linter.all false
namespace Dt
open Go
set_option linter.all false
set_option maxRecDepth 100000
theorem f5_0 : rf 5 0 = true := by kernel_rfl
theorem t5_0 : rt 5 0 = true := by kernel_rfl
theorem f5_3 : rf 5 3 = true := by kernel_rfl
theorem t5_3 : rt 5 3 = true := by kernel_rfl
theorem f10_0 : rf 10 0 = true := by kernel_rfl
theorem t10_0 : rt 10 0 = true := by kernel_rfl
theorem f10_7 : rf 10 7 = true := by kernel_rfl
theorem t10_7 : rt 10 7 = true := by kernel_rfl
theorem f12_11 : rf 12 11 = true := by kernel_rfl
theorem t12_11 : rt 12 11 = true := by kernel_rfl
theorem f13_6 : rf 13 6 = true := by kernel_rfl
theorem t13_6 : rt 13 6 = true := by kernel_rfl
theorem f15_14 : rf 15 14 = true := by kernel_rfl
theorem t15_14 : rt 15 14 = true := by kernel_rfl
theorem f16_14 : rf 16 14 = true := by kernel_rfl
theorem t16_14 : rt 16 14 = true := by kernel_rfl
theorem f17_13 : rf 17 13 = true := by kernel_rfl
theorem t17_13 : rt 17 13 = true := by kernel_rfl
theorem f19_1 : rf 19 1 = true := by kernel_rfl
theorem t19_1 : rt 19 1 = true := by kernel_rfl
theorem f19_17 : rf 19 17 = true := by kernel_rfl
theorem t19_17 : rt 19 17 = true := by kernel_rfl
theorem f20_3 : rf 20 3 = true := by kernel_rfl
theorem t20_3 : rt 20 3 = true := by kernel_rfl
end Dt
