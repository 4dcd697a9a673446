/- A part of the abstract machine and of the proof that the program does what it reckons; no conditions. -/
import Derived.Test.YtoifgfkgjbddcaaGreatDoorZx
set_option linter.all false
namespace Dt
open Go
set_option linter.all false
set_option maxRecDepth 100000
theorem f7_4 : rf 7 4 = true := by kernel_rfl
theorem t7_4 : rt 7 4 = true := by kernel_rfl
theorem f9_0 : rf 9 0 = true := by kernel_rfl
theorem t9_0 : rt 9 0 = true := by kernel_rfl
theorem f10_3 : rf 10 3 = true := by kernel_rfl
theorem t10_3 : rt 10 3 = true := by kernel_rfl
theorem f13_2 : rf 13 2 = true := by kernel_rfl
theorem t13_2 : rt 13 2 = true := by kernel_rfl
theorem f13_9 : rf 13 9 = true := by kernel_rfl
theorem t13_9 : rt 13 9 = true := by kernel_rfl
theorem f15_10 : rf 15 10 = true := by kernel_rfl
theorem t15_10 : rt 15 10 = true := by kernel_rfl
theorem f16_10 : rf 16 10 = true := by kernel_rfl
theorem t16_10 : rt 16 10 = true := by kernel_rfl
theorem f18_2 : rf 18 2 = true := by kernel_rfl
theorem t18_2 : rt 18 2 = true := by kernel_rfl
theorem f18_17 : rf 18 17 = true := by kernel_rfl
theorem t18_17 : rt 18 17 = true := by kernel_rfl
theorem f19_5 : rf 19 5 = true := by kernel_rfl
theorem t19_5 : rt 19 5 = true := by kernel_rfl
theorem f20_7 : rf 20 7 = true := by kernel_rfl
theorem t20_7 : rt 20 7 = true := by kernel_rfl
end Dt
