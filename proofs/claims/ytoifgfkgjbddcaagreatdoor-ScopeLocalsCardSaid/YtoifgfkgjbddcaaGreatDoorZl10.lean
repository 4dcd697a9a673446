/- A part of the abstract machine and of the proof that the program does what it reckons; no conditions. -/
import Derived.Test.YtoifgfkgjbddcaaGreatDoorZx
set_option linter.all false
namespace Dt
open Go
set_option linter.all false
set_option maxRecDepth 100000
theorem f3_0 : rf 3 0 = true := by kernel_rfl
theorem t3_0 : rt 3 0 = true := by kernel_rfl
theorem f6_3 : rf 6 3 = true := by kernel_rfl
theorem t6_3 : rt 6 3 = true := by kernel_rfl
theorem f9_6 : rf 9 6 = true := by kernel_rfl
theorem t9_6 : rt 9 6 = true := by kernel_rfl
theorem f10_6 : rf 10 6 = true := by kernel_rfl
theorem t10_6 : rt 10 6 = true := by kernel_rfl
theorem f13_12 : rf 13 12 = true := by kernel_rfl
theorem t13_12 : rt 13 12 = true := by kernel_rfl
theorem f14_2 : rf 14 2 = true := by kernel_rfl
theorem t14_2 : rt 14 2 = true := by kernel_rfl
theorem f14_5 : rf 14 5 = true := by kernel_rfl
theorem t14_5 : rt 14 5 = true := by kernel_rfl
theorem f17_1 : rf 17 1 = true := by kernel_rfl
theorem t17_1 : rt 17 1 = true := by kernel_rfl
theorem f17_16 : rf 17 16 = true := by kernel_rfl
theorem t17_16 : rt 17 16 = true := by kernel_rfl
theorem f18_4 : rf 18 4 = true := by kernel_rfl
theorem t18_4 : rt 18 4 = true := by kernel_rfl
theorem f19_7 : rf 19 7 = true := by kernel_rfl
theorem t19_7 : rt 19 7 = true := by kernel_rfl
theorem f20_9 : rf 20 9 = true := by kernel_rfl
theorem t20_9 : rt 20 9 = true := by kernel_rfl
end Dt
