/- A part of the abstract machine and of the proof that the program does what it reckons; no conditions. -/
import Derived.Test.YtoifgfkgjbddcaaGreatDoorZx
set_option linter.all false
namespace Dt
open Go
set_option linter.all false
set_option maxRecDepth 100000
theorem f4_2 : rf 4 2 = true := by kernel_rfl
theorem t4_2 : rt 4 2 = true := by kernel_rfl
theorem f6_1 : rf 6 1 = true := by kernel_rfl
theorem t6_1 : rt 6 1 = true := by kernel_rfl
theorem f9_4 : rf 9 4 = true := by kernel_rfl
theorem t9_4 : rt 9 4 = true := by kernel_rfl
theorem f10_4 : rf 10 4 = true := by kernel_rfl
theorem t10_4 : rt 10 4 = true := by kernel_rfl
theorem f13_10 : rf 13 10 = true := by kernel_rfl
theorem t13_10 : rt 13 10 = true := by kernel_rfl
theorem f14_0 : rf 14 0 = true := by kernel_rfl
theorem t14_0 : rt 14 0 = true := by kernel_rfl
theorem f14_3 : rf 14 3 = true := by kernel_rfl
theorem t14_3 : rt 14 3 = true := by kernel_rfl
theorem f16_15 : rf 16 15 = true := by kernel_rfl
theorem t16_15 : rt 16 15 = true := by kernel_rfl
theorem f17_14 : rf 17 14 = true := by kernel_rfl
theorem t17_14 : rt 17 14 = true := by kernel_rfl
theorem f19_2 : rf 19 2 = true := by kernel_rfl
theorem t19_2 : rt 19 2 = true := by kernel_rfl
theorem f19_18 : rf 19 18 = true := by kernel_rfl
theorem t19_18 : rt 19 18 = true := by kernel_rfl
theorem f20_4 : rf 20 4 = true := by kernel_rfl
theorem t20_4 : rt 20 4 = true := by kernel_rfl
end Dt
