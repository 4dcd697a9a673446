/- A part of the abstract machine and of the proof that the program does what it reckons; no conditions. -/
import Derived.Test.YtoifgfkgjbddcaaGreatDoorZg1
import Derived.Test.YtoifgfkgjbddcaaGreatDoorZg2
import Derived.Test.YtoifgfkgjbddcaaGreatDoorZg3
import Derived.Test.YtoifgfkgjbddcaaGreatDoorZg4
import Derived.Test.YtoifgfkgjbddcaaGreatDoorZg5
set_option linter.all false
namespace Dt
open Go
set_option linter.all false
set_option maxRecDepth 100000
theorem out7a (m : Nat) (b : Bool) : evF AB T1 200 7 [.int .i64 (.negSucc m), .bool b] ⟨0, .nil, []⟩ yes = true := by kernel_rfl
theorem out7b (m : Nat) (b : Bool) : evF AB T1 200 7 [.int .i64 (.ofNat (m + 10)), .bool b] ⟨0, .nil, []⟩ yes = true := by kernel_rfl
theorem all7 (a0 : Int) (a1 : Bool) : evF AB T1 200 7 [.int .i64 a0, .bool a1] ⟨0, .nil, []⟩ yes = true := by
  cases a0 with
  | negSucc m => exact out7a m a1
  | ofNat m =>
    by_cases h : m < 10
    · have hm : m = 0 ∨ m = 1 ∨ m = 2 ∨ m = 3 ∨ m = 4 ∨ m = 5 ∨ m = 6 ∨ m = 7 ∨ m = 8 ∨ m = 9 := by omega
      rcases hm with rfl | rfl | rfl | rfl | rfl | rfl | rfl | rfl | rfl | rfl
      · cases a1
        · exact fast params_0_false
        · exact fast params_0_true
      · cases a1
        · exact fast params_1_false
        · exact fast params_1_true
      · cases a1
        · exact fast params_2_false
        · exact fast params_2_true
      · cases a1
        · exact fast params_3_false
        · exact fast params_3_true
      · cases a1
        · exact fast params_4_false
        · exact fast params_4_true
      · cases a1
        · exact fast params_5_false
        · exact fast params_5_true
      · cases a1
        · exact fast params_6_false
        · exact fast params_6_true
      · cases a1
        · exact fast params_7_false
        · exact fast params_7_true
      · cases a1
        · exact fast params_8_false
        · exact fast params_8_true
      · cases a1
        · exact fast params_9_false
        · exact fast params_9_true
    · obtain ⟨k, rfl⟩ : ∃ k, m = k + 10 := ⟨m - 10, by omega⟩
      exact out7b k a1
theorem walk7 (a0 : Int) (a1 : Bool) (w : World) : Calls Go.Proofs.Tryz.prog 7 #[.int .i64 a0, .bool a1] w fun e w' => e = .returned (.bool true) ∧ Go.RowKit.Below w.heap.size w w' :=
  law_walk (fn := Go.Proofs.Tryz.f7) (us := [.int .i64 a0, .bool a1]) (by kernel_rfl) rfl (ne_of_beq_false (by kernel_rfl)) (.cons (.int .i64 a0) (.cons (.bool a1) .nil)) (all7 a0 a1) w
end Dt
