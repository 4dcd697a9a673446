/- A part of the abstract machine and of the proof that the program does what it reckons; no conditions. -/
import Derived.Test.YtoifgfkgjbddcaaGreatDoorZx
set_option linter.all false
namespace Dt
open Go
set_option linter.all false
set_option maxRecDepth 100000
theorem f4_3 : rf 4 3 = true := by kernel_rfl
theorem t4_3 : rt 4 3 = true := by kernel_rfl
theorem f6_2 : rf 6 2 = true := by kernel_rfl
theorem t6_2 : rt 6 2 = true := by kernel_rfl
theorem f9_5 : rf 9 5 = true := by kernel_rfl
theorem t9_5 : rt 9 5 = true := by kernel_rfl
theorem f10_5 : rf 10 5 = true := by kernel_rfl
theorem t10_5 : rt 10 5 = true := by kernel_rfl
theorem f13_11 : rf 13 11 = true := by kernel_rfl
theorem t13_11 : rt 13 11 = true := by kernel_rfl
theorem f14_1 : rf 14 1 = true := by kernel_rfl
theorem t14_1 : rt 14 1 = true := by kernel_rfl
theorem f14_4 : rf 14 4 = true := by kernel_rfl
theorem t14_4 : rt 14 4 = true := by kernel_rfl
theorem f17_0 : rf 17 0 = true := by kernel_rfl
theorem t17_0 : rt 17 0 = true := by kernel_rfl
theorem f17_15 : rf 17 15 = true := by kernel_rfl
theorem t17_15 : rt 17 15 = true := by kernel_rfl
theorem f18_3 : rf 18 3 = true := by kernel_rfl
theorem t18_3 : rt 18 3 = true := by kernel_rfl
theorem f19_6 : rf 19 6 = true := by kernel_rfl
theorem t19_6 : rt 19 6 = true := by kernel_rfl
theorem f20_8 : rf 20 8 = true := by kernel_rfl
theorem t20_8 : rt 20 8 = true := by kernel_rfl
end Dt
