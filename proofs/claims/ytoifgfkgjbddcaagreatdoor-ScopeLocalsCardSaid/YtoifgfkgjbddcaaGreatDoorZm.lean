/- A part of the abstract machine and of the proof that the program does what it reckons; no conditions. -/
import Derived.Test.YtoifgfkgjbddcaaGreatDoorZl1
import Derived.Test.YtoifgfkgjbddcaaGreatDoorZl2
import Derived.Test.YtoifgfkgjbddcaaGreatDoorZl3
import Derived.Test.YtoifgfkgjbddcaaGreatDoorZl4
import Derived.Test.YtoifgfkgjbddcaaGreatDoorZl5
import Derived.Test.YtoifgfkgjbddcaaGreatDoorZl6
import Derived.Test.YtoifgfkgjbddcaaGreatDoorZl7
import Derived.Test.YtoifgfkgjbddcaaGreatDoorZl8
import Derived.Test.YtoifgfkgjbddcaaGreatDoorZl9
import Derived.Test.YtoifgfkgjbddcaaGreatDoorZl10
import Derived.Test.YtoifgfkgjbddcaaGreatDoorZl11
import Derived.Test.YtoifgfkgjbddcaaGreatDoorZl12
import Derived.Test.YtoifgfkgjbddcaaGreatDoorZl13
import Derived.Test.YtoifgfkgjbddcaaGreatDoorZl14
import Derived.Test.YtoifgfkgjbddcaaGreatDoorZl15
import Derived.Test.YtoifgfkgjbddcaaGreatDoorZl16
import Derived.Test.YtoifgfkgjbddcaaGreatDoorZl17
import Derived.Test.YtoifgfkgjbddcaaGreatDoorZl18
set_option linter.all false
namespace Dt
open Go
set_option linter.all false
set_option maxRecDepth 100000
theorem out5a (m : Nat) (a : Int) (b : Bool) : said 5 (.negSucc m) a b = true := by kernel_rfl
theorem out5b (m : Nat) (a : Int) (b : Bool) : said 5 (.ofNat (m + 21)) a b = true := by kernel_rfl
theorem out5c (a : Int) (b : Bool) : said 5 (.ofNat 0) a b = true := by kernel_rfl
theorem all5_1 : ∀ a b, said 5 (.ofNat 1) a b = true := whole (bs b0 l1_0) (fun k b => by kernel_rfl) (fun k b => by kernel_rfl)
theorem all5_2 : ∀ a b, said 5 (.ofNat 2) a b = true := whole (bs (bs b0 l2_0) l2_1) (fun k b => by kernel_rfl) (fun k b => by kernel_rfl)
theorem all5_3 : ∀ a b, said 5 (.ofNat 3) a b = true := whole (bs (bs (bs b0 l3_0) l3_1) l3_2) (fun k b => by kernel_rfl) (fun k b => by kernel_rfl)
theorem all5_4 : ∀ a b, said 5 (.ofNat 4) a b = true := whole (bs (bs (bs (bs b0 l4_0) l4_1) l4_2) l4_3) (fun k b => by kernel_rfl) (fun k b => by kernel_rfl)
theorem all5_5 : ∀ a b, said 5 (.ofNat 5) a b = true := whole (bs (bs (bs (bs (bs b0 l5_0) l5_1) l5_2) l5_3) l5_4) (fun k b => by kernel_rfl) (fun k b => by kernel_rfl)
theorem all5_6 : ∀ a b, said 5 (.ofNat 6) a b = true := whole (bs (bs (bs (bs (bs (bs b0 l6_0) l6_1) l6_2) l6_3) l6_4) l6_5) (fun k b => by kernel_rfl) (fun k b => by kernel_rfl)
theorem all5_7 : ∀ a b, said 5 (.ofNat 7) a b = true := whole (bs (bs (bs (bs (bs (bs (bs b0 l7_0) l7_1) l7_2) l7_3) l7_4) l7_5) l7_6) (fun k b => by kernel_rfl) (fun k b => by kernel_rfl)
theorem all5_8 : ∀ a b, said 5 (.ofNat 8) a b = true := whole (bs (bs (bs (bs (bs (bs (bs (bs b0 l8_0) l8_1) l8_2) l8_3) l8_4) l8_5) l8_6) l8_7) (fun k b => by kernel_rfl) (fun k b => by kernel_rfl)
theorem all5_9 : ∀ a b, said 5 (.ofNat 9) a b = true := whole (bs (bs (bs (bs (bs (bs (bs (bs (bs b0 l9_0) l9_1) l9_2) l9_3) l9_4) l9_5) l9_6) l9_7) l9_8) (fun k b => by kernel_rfl) (fun k b => by kernel_rfl)
theorem all5_10 : ∀ a b, said 5 (.ofNat 10) a b = true := whole (bs (bs (bs (bs (bs (bs (bs (bs (bs (bs b0 l10_0) l10_1) l10_2) l10_3) l10_4) l10_5) l10_6) l10_7) l10_8) l10_9) (fun k b => by kernel_rfl) (fun k b => by kernel_rfl)
theorem all5_11 : ∀ a b, said 5 (.ofNat 11) a b = true := whole (bs (bs (bs (bs (bs (bs (bs (bs (bs (bs (bs b0 l11_0) l11_1) l11_2) l11_3) l11_4) l11_5) l11_6) l11_7) l11_8) l11_9) l11_10) (fun k b => by kernel_rfl) (fun k b => by kernel_rfl)
theorem all5_12 : ∀ a b, said 5 (.ofNat 12) a b = true := whole (bs (bs (bs (bs (bs (bs (bs (bs (bs (bs (bs (bs b0 l12_0) l12_1) l12_2) l12_3) l12_4) l12_5) l12_6) l12_7) l12_8) l12_9) l12_10) l12_11) (fun k b => by kernel_rfl) (fun k b => by kernel_rfl)
theorem all5_13 : ∀ a b, said 5 (.ofNat 13) a b = true := whole (bs (bs (bs (bs (bs (bs (bs (bs (bs (bs (bs (bs (bs b0 l13_0) l13_1) l13_2) l13_3) l13_4) l13_5) l13_6) l13_7) l13_8) l13_9) l13_10) l13_11) l13_12) (fun k b => by kernel_rfl) (fun k b => by kernel_rfl)
theorem all5_14 : ∀ a b, said 5 (.ofNat 14) a b = true := whole (bs (bs (bs (bs (bs (bs (bs (bs (bs (bs (bs (bs (bs (bs b0 l14_0) l14_1) l14_2) l14_3) l14_4) l14_5) l14_6) l14_7) l14_8) l14_9) l14_10) l14_11) l14_12) l14_13) (fun k b => by kernel_rfl) (fun k b => by kernel_rfl)
theorem all5_15 : ∀ a b, said 5 (.ofNat 15) a b = true := whole (bs (bs (bs (bs (bs (bs (bs (bs (bs (bs (bs (bs (bs (bs (bs b0 l15_0) l15_1) l15_2) l15_3) l15_4) l15_5) l15_6) l15_7) l15_8) l15_9) l15_10) l15_11) l15_12) l15_13) l15_14) (fun k b => by kernel_rfl) (fun k b => by kernel_rfl)
theorem all5_16 : ∀ a b, said 5 (.ofNat 16) a b = true := whole (bs (bs (bs (bs (bs (bs (bs (bs (bs (bs (bs (bs (bs (bs (bs (bs b0 l16_0) l16_1) l16_2) l16_3) l16_4) l16_5) l16_6) l16_7) l16_8) l16_9) l16_10) l16_11) l16_12) l16_13) l16_14) l16_15) (fun k b => by kernel_rfl) (fun k b => by kernel_rfl)
theorem all5_17 : ∀ a b, said 5 (.ofNat 17) a b = true := whole (bs (bs (bs (bs (bs (bs (bs (bs (bs (bs (bs (bs (bs (bs (bs (bs (bs b0 l17_0) l17_1) l17_2) l17_3) l17_4) l17_5) l17_6) l17_7) l17_8) l17_9) l17_10) l17_11) l17_12) l17_13) l17_14) l17_15) l17_16) (fun k b => by kernel_rfl) (fun k b => by kernel_rfl)
theorem all5_18 : ∀ a b, said 5 (.ofNat 18) a b = true := whole (bs (bs (bs (bs (bs (bs (bs (bs (bs (bs (bs (bs (bs (bs (bs (bs (bs (bs b0 l18_0) l18_1) l18_2) l18_3) l18_4) l18_5) l18_6) l18_7) l18_8) l18_9) l18_10) l18_11) l18_12) l18_13) l18_14) l18_15) l18_16) l18_17) (fun k b => by kernel_rfl) (fun k b => by kernel_rfl)
theorem all5_19 : ∀ a b, said 5 (.ofNat 19) a b = true := whole (bs (bs (bs (bs (bs (bs (bs (bs (bs (bs (bs (bs (bs (bs (bs (bs (bs (bs (bs b0 l19_0) l19_1) l19_2) l19_3) l19_4) l19_5) l19_6) l19_7) l19_8) l19_9) l19_10) l19_11) l19_12) l19_13) l19_14) l19_15) l19_16) l19_17) l19_18) (fun k b => by kernel_rfl) (fun k b => by kernel_rfl)
theorem all5_20 : ∀ a b, said 5 (.ofNat 20) a b = true := whole (bs (bs (bs (bs (bs (bs (bs (bs (bs (bs (bs (bs (bs (bs (bs (bs (bs (bs (bs (bs b0 l20_0) l20_1) l20_2) l20_3) l20_4) l20_5) l20_6) l20_7) l20_8) l20_9) l20_10) l20_11) l20_12) l20_13) l20_14) l20_15) l20_16) l20_17) l20_18) l20_19) (fun k b => by kernel_rfl) (fun k b => by kernel_rfl)
theorem all5 (a0 a1 : Int) (a2 : Bool) : said 5 a0 a1 a2 = true := by
  cases a0 with
  | negSucc m => exact out5a m a1 a2
  | ofNat m =>
    by_cases h : m < 21
    · have hm : m = 0 ∨ m = 1 ∨ m = 2 ∨ m = 3 ∨ m = 4 ∨ m = 5 ∨ m = 6 ∨ m = 7 ∨ m = 8 ∨ m = 9 ∨ m = 10 ∨ m = 11 ∨ m = 12 ∨ m = 13 ∨ m = 14 ∨ m = 15 ∨ m = 16 ∨ m = 17 ∨ m = 18 ∨ m = 19 ∨ m = 20 := by omega
      rcases hm with rfl | rfl | rfl | rfl | rfl | rfl | rfl | rfl | rfl | rfl | rfl | rfl | rfl | rfl | rfl | rfl | rfl | rfl | rfl | rfl | rfl
      · exact out5c a1 a2
      · exact all5_1 a1 a2
      · exact all5_2 a1 a2
      · exact all5_3 a1 a2
      · exact all5_4 a1 a2
      · exact all5_5 a1 a2
      · exact all5_6 a1 a2
      · exact all5_7 a1 a2
      · exact all5_8 a1 a2
      · exact all5_9 a1 a2
      · exact all5_10 a1 a2
      · exact all5_11 a1 a2
      · exact all5_12 a1 a2
      · exact all5_13 a1 a2
      · exact all5_14 a1 a2
      · exact all5_15 a1 a2
      · exact all5_16 a1 a2
      · exact all5_17 a1 a2
      · exact all5_18 a1 a2
      · exact all5_19 a1 a2
      · exact all5_20 a1 a2
    · obtain ⟨k, rfl⟩ : ∃ k, m = k + 21 := ⟨m - 21, by omega⟩
      exact out5b k a1 a2
theorem walk5 (a0 a1 : Int) (a2 : Bool) (w : World) : Calls Go.Proofs.Tryz.prog 5 #[.int .i64 a0, .int .i64 a1, .bool a2] w fun e w' => e = .returned (.bool true) ∧ Go.RowKit.Below w.heap.size w w' :=
  law_walk (fn := Go.Proofs.Tryz.f5) (us := [.int .i64 a0, .int .i64 a1, .bool a2]) (by kernel_rfl) rfl (ne_of_beq_false (by kernel_rfl)) (.cons (.int .i64 a0) (.cons (.int .i64 a1) (.cons (.bool a2) .nil))) (all5 a0 a1 a2) w
end Dt
