/- A part of the abstract machine and of the proof that the program does what it reckons; no conditions. -/
import Derived.Test.YtoifgfkgjbddcaaGreatDoorZl1
import Derived.Test.YtoifgfkgjbddcaaGreatDoorZl2
import Derived.Test.YtoifgfkgjbddcaaGreatDoorZl3
import Derived.Test.YtoifgfkgjbddcaaGreatDoorZl4
import Derived.Test.YtoifgfkgjbddcaaGreatDoorZl5
import Derived.Test.YtoifgfkgjbddcaaGreatDoorZl6
import Derived.Test.YtoifgfkgjbddcaaGreatDoorZl7
import Derived.Test.YtoifgfkgjbddcaaGreatDoorZl8
import Derived.Test.YtoifgfkgjbddcaaGreatDoorZl9
import Derived.Test.YtoifgfkgjbddcaaGreatDoorZl10
import Derived.Test.YtoifgfkgjbddcaaGreatDoorZl11
import Derived.Test.YtoifgfkgjbddcaaGreatDoorZl12
import Derived.Test.YtoifgfkgjbddcaaGreatDoorZl13
import Derived.Test.YtoifgfkgjbddcaaGreatDoorZl14
import Derived.Test.YtoifgfkgjbddcaaGreatDoorZl15
import Derived.Test.YtoifgfkgjbddcaaGreatDoorZl16
import Derived.Test.YtoifgfkgjbddcaaGreatDoorZl17
import Derived.Test.YtoifgfkgjbddcaaGreatDoorZl18
set_option linter.all false
namespace Dt
open Go
set_option linter.all false
set_option maxRecDepth 100000
theorem out5a (m : Nat) (a : Int) (b : Bool) : said 5 (.negSucc m) a b = true := by kernel_rfl
theorem out5b (m : Nat) (a : Int) (b : Bool) : said 5 (.ofNat (m + 21)) a b = true := by kernel_rfl
theorem out5c (a : Int) (b : Bool) : said 5 (.ofNat 0) a b = true := by kernel_rfl
theorem all5_1 : ∀ a b, said 5 (.ofNat 1) a b = true := whole (bs b0 f1_0 t1_0) (fun k b => by kernel_rfl) (fun k b => by kernel_rfl)
theorem all5_2 : ∀ a b, said 5 (.ofNat 2) a b = true := whole (bs (bs b0 f2_0 t2_0) f2_1 t2_1) (fun k b => by kernel_rfl) (fun k b => by kernel_rfl)
theorem all5_3 : ∀ a b, said 5 (.ofNat 3) a b = true := whole (bs (bs (bs b0 f3_0 t3_0) f3_1 t3_1) f3_2 t3_2) (fun k b => by kernel_rfl) (fun k b => by kernel_rfl)
theorem all5_4 : ∀ a b, said 5 (.ofNat 4) a b = true := whole (bs (bs (bs (bs b0 f4_0 t4_0) f4_1 t4_1) f4_2 t4_2) f4_3 t4_3) (fun k b => by kernel_rfl) (fun k b => by kernel_rfl)
theorem all5_5 : ∀ a b, said 5 (.ofNat 5) a b = true := whole (bs (bs (bs (bs (bs b0 f5_0 t5_0) f5_1 t5_1) f5_2 t5_2) f5_3 t5_3) f5_4 t5_4) (fun k b => by kernel_rfl) (fun k b => by kernel_rfl)
theorem all5_6 : ∀ a b, said 5 (.ofNat 6) a b = true := whole (bs (bs (bs (bs (bs (bs b0 f6_0 t6_0) f6_1 t6_1) f6_2 t6_2) f6_3 t6_3) f6_4 t6_4) f6_5 t6_5) (fun k b => by kernel_rfl) (fun k b => by kernel_rfl)
theorem all5_7 : ∀ a b, said 5 (.ofNat 7) a b = true := whole (bs (bs (bs (bs (bs (bs (bs b0 f7_0 t7_0) f7_1 t7_1) f7_2 t7_2) f7_3 t7_3) f7_4 t7_4) f7_5 t7_5) f7_6 t7_6) (fun k b => by kernel_rfl) (fun k b => by kernel_rfl)
theorem all5_8 : ∀ a b, said 5 (.ofNat 8) a b = true := whole (bs (bs (bs (bs (bs (bs (bs (bs b0 f8_0 t8_0) f8_1 t8_1) f8_2 t8_2) f8_3 t8_3) f8_4 t8_4) f8_5 t8_5) f8_6 t8_6) f8_7 t8_7) (fun k b => by kernel_rfl) (fun k b => by kernel_rfl)
theorem all5_9 : ∀ a b, said 5 (.ofNat 9) a b = true := whole (bs (bs (bs (bs (bs (bs (bs (bs (bs b0 f9_0 t9_0) f9_1 t9_1) f9_2 t9_2) f9_3 t9_3) f9_4 t9_4) f9_5 t9_5) f9_6 t9_6) f9_7 t9_7) f9_8 t9_8) (fun k b => by kernel_rfl) (fun k b => by kernel_rfl)
theorem all5_10 : ∀ a b, said 5 (.ofNat 10) a b = true := whole (bs (bs (bs (bs (bs (bs (bs (bs (bs (bs b0 f10_0 t10_0) f10_1 t10_1) f10_2 t10_2) f10_3 t10_3) f10_4 t10_4) f10_5 t10_5) f10_6 t10_6) f10_7 t10_7) f10_8 t10_8) f10_9 t10_9) (fun k b => by kernel_rfl) (fun k b => by kernel_rfl)
theorem all5_11 : ∀ a b, said 5 (.ofNat 11) a b = true := whole (bs (bs (bs (bs (bs (bs (bs (bs (bs (bs (bs b0 f11_0 t11_0) f11_1 t11_1) f11_2 t11_2) f11_3 t11_3) f11_4 t11_4) f11_5 t11_5) f11_6 t11_6) f11_7 t11_7) f11_8 t11_8) f11_9 t11_9) f11_10 t11_10) (fun k b => by kernel_rfl) (fun k b => by kernel_rfl)
theorem all5_12 : ∀ a b, said 5 (.ofNat 12) a b = true := whole (bs (bs (bs (bs (bs (bs (bs (bs (bs (bs (bs (bs b0 f12_0 t12_0) f12_1 t12_1) f12_2 t12_2) f12_3 t12_3) f12_4 t12_4) f12_5 t12_5) f12_6 t12_6) f12_7 t12_7) f12_8 t12_8) f12_9 t12_9) f12_10 t12_10) f12_11 t12_11) (fun k b => by kernel_rfl) (fun k b => by kernel_rfl)
theorem all5_13 : ∀ a b, said 5 (.ofNat 13) a b = true := whole (bs (bs (bs (bs (bs (bs (bs (bs (bs (bs (bs (bs (bs b0 f13_0 t13_0) f13_1 t13_1) f13_2 t13_2) f13_3 t13_3) f13_4 t13_4) f13_5 t13_5) f13_6 t13_6) f13_7 t13_7) f13_8 t13_8) f13_9 t13_9) f13_10 t13_10) f13_11 t13_11) f13_12 t13_12) (fun k b => by kernel_rfl) (fun k b => by kernel_rfl)
theorem all5_14 : ∀ a b, said 5 (.ofNat 14) a b = true := whole (bs (bs (bs (bs (bs (bs (bs (bs (bs (bs (bs (bs (bs (bs b0 f14_0 t14_0) f14_1 t14_1) f14_2 t14_2) f14_3 t14_3) f14_4 t14_4) f14_5 t14_5) f14_6 t14_6) f14_7 t14_7) f14_8 t14_8) f14_9 t14_9) f14_10 t14_10) f14_11 t14_11) f14_12 t14_12) f14_13 t14_13) (fun k b => by kernel_rfl) (fun k b => by kernel_rfl)
theorem all5_15 : ∀ a b, said 5 (.ofNat 15) a b = true := whole (bs (bs (bs (bs (bs (bs (bs (bs (bs (bs (bs (bs (bs (bs (bs b0 f15_0 t15_0) f15_1 t15_1) f15_2 t15_2) f15_3 t15_3) f15_4 t15_4) f15_5 t15_5) f15_6 t15_6) f15_7 t15_7) f15_8 t15_8) f15_9 t15_9) f15_10 t15_10) f15_11 t15_11) f15_12 t15_12) f15_13 t15_13) f15_14 t15_14) (fun k b => by kernel_rfl) (fun k b => by kernel_rfl)
theorem all5_16 : ∀ a b, said 5 (.ofNat 16) a b = true := whole (bs (bs (bs (bs (bs (bs (bs (bs (bs (bs (bs (bs (bs (bs (bs (bs b0 f16_0 t16_0) f16_1 t16_1) f16_2 t16_2) f16_3 t16_3) f16_4 t16_4) f16_5 t16_5) f16_6 t16_6) f16_7 t16_7) f16_8 t16_8) f16_9 t16_9) f16_10 t16_10) f16_11 t16_11) f16_12 t16_12) f16_13 t16_13) f16_14 t16_14) f16_15 t16_15) (fun k b => by kernel_rfl) (fun k b => by kernel_rfl)
theorem all5_17 : ∀ a b, said 5 (.ofNat 17) a b = true := whole (bs (bs (bs (bs (bs (bs (bs (bs (bs (bs (bs (bs (bs (bs (bs (bs (bs b0 f17_0 t17_0) f17_1 t17_1) f17_2 t17_2) f17_3 t17_3) f17_4 t17_4) f17_5 t17_5) f17_6 t17_6) f17_7 t17_7) f17_8 t17_8) f17_9 t17_9) f17_10 t17_10) f17_11 t17_11) f17_12 t17_12) f17_13 t17_13) f17_14 t17_14) f17_15 t17_15) f17_16 t17_16) (fun k b => by kernel_rfl) (fun k b => by kernel_rfl)
theorem all5_18 : ∀ a b, said 5 (.ofNat 18) a b = true := whole (bs (bs (bs (bs (bs (bs (bs (bs (bs (bs (bs (bs (bs (bs (bs (bs (bs (bs b0 f18_0 t18_0) f18_1 t18_1) f18_2 t18_2) f18_3 t18_3) f18_4 t18_4) f18_5 t18_5) f18_6 t18_6) f18_7 t18_7) f18_8 t18_8) f18_9 t18_9) f18_10 t18_10) f18_11 t18_11) f18_12 t18_12) f18_13 t18_13) f18_14 t18_14) f18_15 t18_15) f18_16 t18_16) f18_17 t18_17) (fun k b => by kernel_rfl) (fun k b => by kernel_rfl)
theorem all5_19 : ∀ a b, said 5 (.ofNat 19) a b = true := whole (bs (bs (bs (bs (bs (bs (bs (bs (bs (bs (bs (bs (bs (bs (bs (bs (bs (bs (bs b0 f19_0 t19_0) f19_1 t19_1) f19_2 t19_2) f19_3 t19_3) f19_4 t19_4) f19_5 t19_5) f19_6 t19_6) f19_7 t19_7) f19_8 t19_8) f19_9 t19_9) f19_10 t19_10) f19_11 t19_11) f19_12 t19_12) f19_13 t19_13) f19_14 t19_14) f19_15 t19_15) f19_16 t19_16) f19_17 t19_17) f19_18 t19_18) (fun k b => by kernel_rfl) (fun k b => by kernel_rfl)
theorem all5_20 : ∀ a b, said 5 (.ofNat 20) a b = true := whole (bs (bs (bs (bs (bs (bs (bs (bs (bs (bs (bs (bs (bs (bs (bs (bs (bs (bs (bs (bs b0 f20_0 t20_0) f20_1 t20_1) f20_2 t20_2) f20_3 t20_3) f20_4 t20_4) f20_5 t20_5) f20_6 t20_6) f20_7 t20_7) f20_8 t20_8) f20_9 t20_9) f20_10 t20_10) f20_11 t20_11) f20_12 t20_12) f20_13 t20_13) f20_14 t20_14) f20_15 t20_15) f20_16 t20_16) f20_17 t20_17) f20_18 t20_18) f20_19 t20_19) (fun k b => by kernel_rfl) (fun k b => by kernel_rfl)
theorem all5 (a0 a1 : Int) (a2 : Bool) : said 5 a0 a1 a2 = true := by
  cases a0 with
  | negSucc m => exact out5a m a1 a2
  | ofNat m =>
    by_cases h : m < 21
    · have hm : m = 0 ∨ m = 1 ∨ m = 2 ∨ m = 3 ∨ m = 4 ∨ m = 5 ∨ m = 6 ∨ m = 7 ∨ m = 8 ∨ m = 9 ∨ m = 10 ∨ m = 11 ∨ m = 12 ∨ m = 13 ∨ m = 14 ∨ m = 15 ∨ m = 16 ∨ m = 17 ∨ m = 18 ∨ m = 19 ∨ m = 20 := by omega
      rcases hm with rfl | rfl | rfl | rfl | rfl | rfl | rfl | rfl | rfl | rfl | rfl | rfl | rfl | rfl | rfl | rfl | rfl | rfl | rfl | rfl | rfl
      · exact out5c a1 a2
      · exact all5_1 a1 a2
      · exact all5_2 a1 a2
      · exact all5_3 a1 a2
      · exact all5_4 a1 a2
      · exact all5_5 a1 a2
      · exact all5_6 a1 a2
      · exact all5_7 a1 a2
      · exact all5_8 a1 a2
      · exact all5_9 a1 a2
      · exact all5_10 a1 a2
      · exact all5_11 a1 a2
      · exact all5_12 a1 a2
      · exact all5_13 a1 a2
      · exact all5_14 a1 a2
      · exact all5_15 a1 a2
      · exact all5_16 a1 a2
      · exact all5_17 a1 a2
      · exact all5_18 a1 a2
      · exact all5_19 a1 a2
      · exact all5_20 a1 a2
    · obtain ⟨k, rfl⟩ : ∃ k, m = k + 21 := ⟨m - 21, by omega⟩
      exact out5b k a1 a2
theorem walk5 (a0 a1 : Int) (a2 : Bool) (w : World) : Calls Go.Proofs.Tryz.prog 5 #[.int .i64 a0, .int .i64 a1, .bool a2] w fun e w' => e = .returned (.bool true) ∧ Go.RowKit.Below w.heap.size w w' :=
  law_walk (fn := Go.Proofs.Tryz.f5) (us := [.int .i64 a0, .int .i64 a1, .bool a2]) (by kernel_rfl) rfl (ne_of_beq_false (by kernel_rfl)) (.cons (.int .i64 a0) (.cons (.int .i64 a1) (.cons (.bool a2) .nil))) (all5 a0 a1 a2) w
end Dt
