/- A part of the abstract machine and of the proof that the program does what it reckons; no conditions. -/
import Derived.Test.YtoifgfkgjbddcaaGreatDoorZx
set_option linter.all false
namespace Dt
open Go
set_option linter.all false
set_option maxRecDepth 100000
theorem f5_1 : rf 5 1 = true := by kernel_rfl
theorem t5_1 : rt 5 1 = true := by kernel_rfl
theorem f5_4 : rf 5 4 = true := by kernel_rfl
theorem t5_4 : rt 5 4 = true := by kernel_rfl
theorem f10_1 : rf 10 1 = true := by kernel_rfl
theorem t10_1 : rt 10 1 = true := by kernel_rfl
theorem f10_8 : rf 10 8 = true := by kernel_rfl
theorem t10_8 : rt 10 8 = true := by kernel_rfl
theorem f13_0 : rf 13 0 = true := by kernel_rfl
theorem t13_0 : rt 13 0 = true := by kernel_rfl
theorem f13_7 : rf 13 7 = true := by kernel_rfl
theorem t13_7 : rt 13 7 = true := by kernel_rfl
theorem f15_8 : rf 15 8 = true := by kernel_rfl
theorem t15_8 : rt 15 8 = true := by kernel_rfl
theorem f16_8 : rf 16 8 = true := by kernel_rfl
theorem t16_8 : rt 16 8 = true := by kernel_rfl
theorem f18_0 : rf 18 0 = true := by kernel_rfl
theorem t18_0 : rt 18 0 = true := by kernel_rfl
theorem f18_15 : rf 18 15 = true := by kernel_rfl
theorem t18_15 : rt 18 15 = true := by kernel_rfl
theorem f19_3 : rf 19 3 = true := by kernel_rfl
theorem t19_3 : rt 19 3 = true := by kernel_rfl
theorem f20_5 : rf 20 5 = true := by kernel_rfl
theorem t20_5 : rt 20 5 = true := by kernel_rfl
end Dt
