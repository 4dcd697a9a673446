/- A part of the abstract machine and of the proof that the program does what it reckons; no conditions. -/
import Derived.Test.YtoifgfkgjbddcaaGreatDoorZx
set_option linter.all false
namespace Dt
open Go
set_option linter.all false
set_option maxRecDepth 100000
theorem f4_0 : rf 4 0 = true := by kernel_rfl
theorem t4_0 : rt 4 0 = true := by kernel_rfl
theorem f5_2 : rf 5 2 = true := by kernel_rfl
theorem t5_2 : rt 5 2 = true := by kernel_rfl
theorem f10_2 : rf 10 2 = true := by kernel_rfl
theorem t10_2 : rt 10 2 = true := by kernel_rfl
theorem f10_9 : rf 10 9 = true := by kernel_rfl
theorem t10_9 : rt 10 9 = true := by kernel_rfl
theorem f13_1 : rf 13 1 = true := by kernel_rfl
theorem t13_1 : rt 13 1 = true := by kernel_rfl
theorem f13_8 : rf 13 8 = true := by kernel_rfl
theorem t13_8 : rt 13 8 = true := by kernel_rfl
theorem f15_9 : rf 15 9 = true := by kernel_rfl
theorem t15_9 : rt 15 9 = true := by kernel_rfl
theorem f16_9 : rf 16 9 = true := by kernel_rfl
theorem t16_9 : rt 16 9 = true := by kernel_rfl
theorem f18_1 : rf 18 1 = true := by kernel_rfl
theorem t18_1 : rt 18 1 = true := by kernel_rfl
theorem f18_16 : rf 18 16 = true := by kernel_rfl
theorem t18_16 : rt 18 16 = true := by kernel_rfl
theorem f19_4 : rf 19 4 = true := by kernel_rfl
theorem t19_4 : rt 19 4 = true := by kernel_rfl
theorem f20_6 : rf 20 6 = true := by kernel_rfl
theorem t20_6 : rt 20 6 = true := by kernel_rfl
end Dt
