/- A part of the abstract machine and of the proof that the program does what it reckons; no conditions. -/
import Derived.Test.YtoifgfkgjbddcaaGreatDoorZi1
import Derived.Test.YtoifgfkgjbddcaaGreatDoorZi2
import Derived.Test.YtoifgfkgjbddcaaGreatDoorZi3
import Derived.Test.YtoifgfkgjbddcaaGreatDoorZi4
import Derived.Test.YtoifgfkgjbddcaaGreatDoorZi5
import Derived.Test.YtoifgfkgjbddcaaGreatDoorZi6
import Derived.Test.YtoifgfkgjbddcaaGreatDoorZi7
import Derived.Test.YtoifgfkgjbddcaaGreatDoorZi8
import Derived.Test.YtoifgfkgjbddcaaGreatDoorZi9
set_option linter.all false
namespace Dt
open Go
set_option linter.all false
set_option maxRecDepth 100000
theorem out6a (m : Nat) (a1 : Int) (b : Bool) : evF AB T1 200 6 [.int .i64 (.negSucc m), .int .i64 a1, .bool b] ⟨0, .nil, []⟩ yes = true := by kernel_rfl
theorem out6b (m : Nat) (a1 : Int) (b : Bool) : evF AB T1 200 6 [.int .i64 (.ofNat (m + 13)), .int .i64 a1, .bool b] ⟨0, .nil, []⟩ yes = true := by kernel_rfl
theorem out6c (a1 : Int) (b : Bool) : evF AB T1 200 6 [.int .i64 (.ofNat 0), .int .i64 a1, .bool b] ⟨0, .nil, []⟩ yes = true := by kernel_rfl
theorem out6n_1 (k : Nat) (b : Bool) : evF AB T1 200 6 [.int .i64 (.ofNat 1), .int .i64 (.negSucc k), .bool b] ⟨0, .nil, []⟩ yes = true := by kernel_rfl
theorem out6k_1 (k : Nat) (b : Bool) : evF AB T1 200 6 [.int .i64 (.ofNat 1), .int .i64 (.ofNat (k + 1)), .bool b] ⟨0, .nil, []⟩ yes = true := by kernel_rfl
theorem all6_1 (a1 : Int) (b : Bool) : evF AB T1 200 6 [.int .i64 (.ofNat 1), .int .i64 a1, .bool b] ⟨0, .nil, []⟩ yes = true := by
  cases a1 with
  | negSucc k => exact out6n_1 k b
  | ofNat k =>
    by_cases h : k < 1
    · have hk : k = 0 := by omega
      subst hk
      cases b
      · exact fast clauses_1_0_false
      · exact fast clauses_1_0_true
    · obtain ⟨j, rfl⟩ : ∃ j, k = j + 1 := ⟨k - 1, by omega⟩
      exact out6k_1 j b
theorem out6n_2 (k : Nat) (b : Bool) : evF AB T1 200 6 [.int .i64 (.ofNat 2), .int .i64 (.negSucc k), .bool b] ⟨0, .nil, []⟩ yes = true := by kernel_rfl
theorem out6k_2 (k : Nat) (b : Bool) : evF AB T1 200 6 [.int .i64 (.ofNat 2), .int .i64 (.ofNat (k + 2)), .bool b] ⟨0, .nil, []⟩ yes = true := by kernel_rfl
theorem all6_2 (a1 : Int) (b : Bool) : evF AB T1 200 6 [.int .i64 (.ofNat 2), .int .i64 a1, .bool b] ⟨0, .nil, []⟩ yes = true := by
  cases a1 with
  | negSucc k => exact out6n_2 k b
  | ofNat k =>
    by_cases h : k < 2
    · have hk : k = 0 ∨ k = 1 := by omega
      rcases hk with rfl | rfl
      · cases b
        · exact fast clauses_2_0_false
        · exact fast clauses_2_0_true
      · cases b
        · exact fast clauses_2_1_false
        · exact fast clauses_2_1_true
    · obtain ⟨j, rfl⟩ : ∃ j, k = j + 2 := ⟨k - 2, by omega⟩
      exact out6k_2 j b
theorem out6n_3 (k : Nat) (b : Bool) : evF AB T1 200 6 [.int .i64 (.ofNat 3), .int .i64 (.negSucc k), .bool b] ⟨0, .nil, []⟩ yes = true := by kernel_rfl
theorem out6k_3 (k : Nat) (b : Bool) : evF AB T1 200 6 [.int .i64 (.ofNat 3), .int .i64 (.ofNat (k + 3)), .bool b] ⟨0, .nil, []⟩ yes = true := by kernel_rfl
theorem all6_3 (a1 : Int) (b : Bool) : evF AB T1 200 6 [.int .i64 (.ofNat 3), .int .i64 a1, .bool b] ⟨0, .nil, []⟩ yes = true := by
  cases a1 with
  | negSucc k => exact out6n_3 k b
  | ofNat k =>
    by_cases h : k < 3
    · have hk : k = 0 ∨ k = 1 ∨ k = 2 := by omega
      rcases hk with rfl | rfl | rfl
      · cases b
        · exact fast clauses_3_0_false
        · exact fast clauses_3_0_true
      · cases b
        · exact fast clauses_3_1_false
        · exact fast clauses_3_1_true
      · cases b
        · exact fast clauses_3_2_false
        · exact fast clauses_3_2_true
    · obtain ⟨j, rfl⟩ : ∃ j, k = j + 3 := ⟨k - 3, by omega⟩
      exact out6k_3 j b
theorem out6n_4 (k : Nat) (b : Bool) : evF AB T1 200 6 [.int .i64 (.ofNat 4), .int .i64 (.negSucc k), .bool b] ⟨0, .nil, []⟩ yes = true := by kernel_rfl
theorem out6k_4 (k : Nat) (b : Bool) : evF AB T1 200 6 [.int .i64 (.ofNat 4), .int .i64 (.ofNat (k + 4)), .bool b] ⟨0, .nil, []⟩ yes = true := by kernel_rfl
theorem all6_4 (a1 : Int) (b : Bool) : evF AB T1 200 6 [.int .i64 (.ofNat 4), .int .i64 a1, .bool b] ⟨0, .nil, []⟩ yes = true := by
  cases a1 with
  | negSucc k => exact out6n_4 k b
  | ofNat k =>
    by_cases h : k < 4
    · have hk : k = 0 ∨ k = 1 ∨ k = 2 ∨ k = 3 := by omega
      rcases hk with rfl | rfl | rfl | rfl
      · cases b
        · exact fast clauses_4_0_false
        · exact fast clauses_4_0_true
      · cases b
        · exact fast clauses_4_1_false
        · exact fast clauses_4_1_true
      · cases b
        · exact fast clauses_4_2_false
        · exact fast clauses_4_2_true
      · cases b
        · exact fast clauses_4_3_false
        · exact fast clauses_4_3_true
    · obtain ⟨j, rfl⟩ : ∃ j, k = j + 4 := ⟨k - 4, by omega⟩
      exact out6k_4 j b
theorem out6n_5 (k : Nat) (b : Bool) : evF AB T1 200 6 [.int .i64 (.ofNat 5), .int .i64 (.negSucc k), .bool b] ⟨0, .nil, []⟩ yes = true := by kernel_rfl
theorem out6k_5 (k : Nat) (b : Bool) : evF AB T1 200 6 [.int .i64 (.ofNat 5), .int .i64 (.ofNat (k + 5)), .bool b] ⟨0, .nil, []⟩ yes = true := by kernel_rfl
theorem all6_5 (a1 : Int) (b : Bool) : evF AB T1 200 6 [.int .i64 (.ofNat 5), .int .i64 a1, .bool b] ⟨0, .nil, []⟩ yes = true := by
  cases a1 with
  | negSucc k => exact out6n_5 k b
  | ofNat k =>
    by_cases h : k < 5
    · have hk : k = 0 ∨ k = 1 ∨ k = 2 ∨ k = 3 ∨ k = 4 := by omega
      rcases hk with rfl | rfl | rfl | rfl | rfl
      · cases b
        · exact fast clauses_5_0_false
        · exact fast clauses_5_0_true
      · cases b
        · exact fast clauses_5_1_false
        · exact fast clauses_5_1_true
      · cases b
        · exact fast clauses_5_2_false
        · exact fast clauses_5_2_true
      · cases b
        · exact fast clauses_5_3_false
        · exact fast clauses_5_3_true
      · cases b
        · exact fast clauses_5_4_false
        · exact fast clauses_5_4_true
    · obtain ⟨j, rfl⟩ : ∃ j, k = j + 5 := ⟨k - 5, by omega⟩
      exact out6k_5 j b
theorem out6n_6 (k : Nat) (b : Bool) : evF AB T1 200 6 [.int .i64 (.ofNat 6), .int .i64 (.negSucc k), .bool b] ⟨0, .nil, []⟩ yes = true := by kernel_rfl
theorem out6k_6 (k : Nat) (b : Bool) : evF AB T1 200 6 [.int .i64 (.ofNat 6), .int .i64 (.ofNat (k + 6)), .bool b] ⟨0, .nil, []⟩ yes = true := by kernel_rfl
theorem all6_6 (a1 : Int) (b : Bool) : evF AB T1 200 6 [.int .i64 (.ofNat 6), .int .i64 a1, .bool b] ⟨0, .nil, []⟩ yes = true := by
  cases a1 with
  | negSucc k => exact out6n_6 k b
  | ofNat k =>
    by_cases h : k < 6
    · have hk : k = 0 ∨ k = 1 ∨ k = 2 ∨ k = 3 ∨ k = 4 ∨ k = 5 := by omega
      rcases hk with rfl | rfl | rfl | rfl | rfl | rfl
      · cases b
        · exact fast clauses_6_0_false
        · exact fast clauses_6_0_true
      · cases b
        · exact fast clauses_6_1_false
        · exact fast clauses_6_1_true
      · cases b
        · exact fast clauses_6_2_false
        · exact fast clauses_6_2_true
      · cases b
        · exact fast clauses_6_3_false
        · exact fast clauses_6_3_true
      · cases b
        · exact fast clauses_6_4_false
        · exact fast clauses_6_4_true
      · cases b
        · exact fast clauses_6_5_false
        · exact fast clauses_6_5_true
    · obtain ⟨j, rfl⟩ : ∃ j, k = j + 6 := ⟨k - 6, by omega⟩
      exact out6k_6 j b
theorem out6n_7 (k : Nat) (b : Bool) : evF AB T1 200 6 [.int .i64 (.ofNat 7), .int .i64 (.negSucc k), .bool b] ⟨0, .nil, []⟩ yes = true := by kernel_rfl
theorem out6k_7 (k : Nat) (b : Bool) : evF AB T1 200 6 [.int .i64 (.ofNat 7), .int .i64 (.ofNat (k + 7)), .bool b] ⟨0, .nil, []⟩ yes = true := by kernel_rfl
theorem all6_7 (a1 : Int) (b : Bool) : evF AB T1 200 6 [.int .i64 (.ofNat 7), .int .i64 a1, .bool b] ⟨0, .nil, []⟩ yes = true := by
  cases a1 with
  | negSucc k => exact out6n_7 k b
  | ofNat k =>
    by_cases h : k < 7
    · have hk : k = 0 ∨ k = 1 ∨ k = 2 ∨ k = 3 ∨ k = 4 ∨ k = 5 ∨ k = 6 := by omega
      rcases hk with rfl | rfl | rfl | rfl | rfl | rfl | rfl
      · cases b
        · exact fast clauses_7_0_false
        · exact fast clauses_7_0_true
      · cases b
        · exact fast clauses_7_1_false
        · exact fast clauses_7_1_true
      · cases b
        · exact fast clauses_7_2_false
        · exact fast clauses_7_2_true
      · cases b
        · exact fast clauses_7_3_false
        · exact fast clauses_7_3_true
      · cases b
        · exact fast clauses_7_4_false
        · exact fast clauses_7_4_true
      · cases b
        · exact fast clauses_7_5_false
        · exact fast clauses_7_5_true
      · cases b
        · exact fast clauses_7_6_false
        · exact fast clauses_7_6_true
    · obtain ⟨j, rfl⟩ : ∃ j, k = j + 7 := ⟨k - 7, by omega⟩
      exact out6k_7 j b
theorem out6n_8 (k : Nat) (b : Bool) : evF AB T1 200 6 [.int .i64 (.ofNat 8), .int .i64 (.negSucc k), .bool b] ⟨0, .nil, []⟩ yes = true := by kernel_rfl
theorem out6k_8 (k : Nat) (b : Bool) : evF AB T1 200 6 [.int .i64 (.ofNat 8), .int .i64 (.ofNat (k + 8)), .bool b] ⟨0, .nil, []⟩ yes = true := by kernel_rfl
theorem all6_8 (a1 : Int) (b : Bool) : evF AB T1 200 6 [.int .i64 (.ofNat 8), .int .i64 a1, .bool b] ⟨0, .nil, []⟩ yes = true := by
  cases a1 with
  | negSucc k => exact out6n_8 k b
  | ofNat k =>
    by_cases h : k < 8
    · have hk : k = 0 ∨ k = 1 ∨ k = 2 ∨ k = 3 ∨ k = 4 ∨ k = 5 ∨ k = 6 ∨ k = 7 := by omega
      rcases hk with rfl | rfl | rfl | rfl | rfl | rfl | rfl | rfl
      · cases b
        · exact fast clauses_8_0_false
        · exact fast clauses_8_0_true
      · cases b
        · exact fast clauses_8_1_false
        · exact fast clauses_8_1_true
      · cases b
        · exact fast clauses_8_2_false
        · exact fast clauses_8_2_true
      · cases b
        · exact fast clauses_8_3_false
        · exact fast clauses_8_3_true
      · cases b
        · exact fast clauses_8_4_false
        · exact fast clauses_8_4_true
      · cases b
        · exact fast clauses_8_5_false
        · exact fast clauses_8_5_true
      · cases b
        · exact fast clauses_8_6_false
        · exact fast clauses_8_6_true
      · cases b
        · exact fast clauses_8_7_false
        · exact fast clauses_8_7_true
    · obtain ⟨j, rfl⟩ : ∃ j, k = j + 8 := ⟨k - 8, by omega⟩
      exact out6k_8 j b
theorem out6n_9 (k : Nat) (b : Bool) : evF AB T1 200 6 [.int .i64 (.ofNat 9), .int .i64 (.negSucc k), .bool b] ⟨0, .nil, []⟩ yes = true := by kernel_rfl
theorem out6k_9 (k : Nat) (b : Bool) : evF AB T1 200 6 [.int .i64 (.ofNat 9), .int .i64 (.ofNat (k + 9)), .bool b] ⟨0, .nil, []⟩ yes = true := by kernel_rfl
theorem all6_9 (a1 : Int) (b : Bool) : evF AB T1 200 6 [.int .i64 (.ofNat 9), .int .i64 a1, .bool b] ⟨0, .nil, []⟩ yes = true := by
  cases a1 with
  | negSucc k => exact out6n_9 k b
  | ofNat k =>
    by_cases h : k < 9
    · have hk : k = 0 ∨ k = 1 ∨ k = 2 ∨ k = 3 ∨ k = 4 ∨ k = 5 ∨ k = 6 ∨ k = 7 ∨ k = 8 := by omega
      rcases hk with rfl | rfl | rfl | rfl | rfl | rfl | rfl | rfl | rfl
      · cases b
        · exact fast clauses_9_0_false
        · exact fast clauses_9_0_true
      · cases b
        · exact fast clauses_9_1_false
        · exact fast clauses_9_1_true
      · cases b
        · exact fast clauses_9_2_false
        · exact fast clauses_9_2_true
      · cases b
        · exact fast clauses_9_3_false
        · exact fast clauses_9_3_true
      · cases b
        · exact fast clauses_9_4_false
        · exact fast clauses_9_4_true
      · cases b
        · exact fast clauses_9_5_false
        · exact fast clauses_9_5_true
      · cases b
        · exact fast clauses_9_6_false
        · exact fast clauses_9_6_true
      · cases b
        · exact fast clauses_9_7_false
        · exact fast clauses_9_7_true
      · cases b
        · exact fast clauses_9_8_false
        · exact fast clauses_9_8_true
    · obtain ⟨j, rfl⟩ : ∃ j, k = j + 9 := ⟨k - 9, by omega⟩
      exact out6k_9 j b
theorem out6n_10 (k : Nat) (b : Bool) : evF AB T1 200 6 [.int .i64 (.ofNat 10), .int .i64 (.negSucc k), .bool b] ⟨0, .nil, []⟩ yes = true := by kernel_rfl
theorem out6k_10 (k : Nat) (b : Bool) : evF AB T1 200 6 [.int .i64 (.ofNat 10), .int .i64 (.ofNat (k + 10)), .bool b] ⟨0, .nil, []⟩ yes = true := by kernel_rfl
theorem all6_10 (a1 : Int) (b : Bool) : evF AB T1 200 6 [.int .i64 (.ofNat 10), .int .i64 a1, .bool b] ⟨0, .nil, []⟩ yes = true := by
  cases a1 with
  | negSucc k => exact out6n_10 k b
  | ofNat k =>
    by_cases h : k < 10
    · have hk : k = 0 ∨ k = 1 ∨ k = 2 ∨ k = 3 ∨ k = 4 ∨ k = 5 ∨ k = 6 ∨ k = 7 ∨ k = 8 ∨ k = 9 := by omega
      rcases hk with rfl | rfl | rfl | rfl | rfl | rfl | rfl | rfl | rfl | rfl
      · cases b
        · exact fast clauses_10_0_false
        · exact fast clauses_10_0_true
      · cases b
        · exact fast clauses_10_1_false
        · exact fast clauses_10_1_true
      · cases b
        · exact fast clauses_10_2_false
        · exact fast clauses_10_2_true
      · cases b
        · exact fast clauses_10_3_false
        · exact fast clauses_10_3_true
      · cases b
        · exact fast clauses_10_4_false
        · exact fast clauses_10_4_true
      · cases b
        · exact fast clauses_10_5_false
        · exact fast clauses_10_5_true
      · cases b
        · exact fast clauses_10_6_false
        · exact fast clauses_10_6_true
      · cases b
        · exact fast clauses_10_7_false
        · exact fast clauses_10_7_true
      · cases b
        · exact fast clauses_10_8_false
        · exact fast clauses_10_8_true
      · cases b
        · exact fast clauses_10_9_false
        · exact fast clauses_10_9_true
    · obtain ⟨j, rfl⟩ : ∃ j, k = j + 10 := ⟨k - 10, by omega⟩
      exact out6k_10 j b
theorem out6n_11 (k : Nat) (b : Bool) : evF AB T1 200 6 [.int .i64 (.ofNat 11), .int .i64 (.negSucc k), .bool b] ⟨0, .nil, []⟩ yes = true := by kernel_rfl
theorem out6k_11 (k : Nat) (b : Bool) : evF AB T1 200 6 [.int .i64 (.ofNat 11), .int .i64 (.ofNat (k + 11)), .bool b] ⟨0, .nil, []⟩ yes = true := by kernel_rfl
theorem all6_11 (a1 : Int) (b : Bool) : evF AB T1 200 6 [.int .i64 (.ofNat 11), .int .i64 a1, .bool b] ⟨0, .nil, []⟩ yes = true := by
  cases a1 with
  | negSucc k => exact out6n_11 k b
  | ofNat k =>
    by_cases h : k < 11
    · have hk : k = 0 ∨ k = 1 ∨ k = 2 ∨ k = 3 ∨ k = 4 ∨ k = 5 ∨ k = 6 ∨ k = 7 ∨ k = 8 ∨ k = 9 ∨ k = 10 := by omega
      rcases hk with rfl | rfl | rfl | rfl | rfl | rfl | rfl | rfl | rfl | rfl | rfl
      · cases b
        · exact fast clauses_11_0_false
        · exact fast clauses_11_0_true
      · cases b
        · exact fast clauses_11_1_false
        · exact fast clauses_11_1_true
      · cases b
        · exact fast clauses_11_2_false
        · exact fast clauses_11_2_true
      · cases b
        · exact fast clauses_11_3_false
        · exact fast clauses_11_3_true
      · cases b
        · exact fast clauses_11_4_false
        · exact fast clauses_11_4_true
      · cases b
        · exact fast clauses_11_5_false
        · exact fast clauses_11_5_true
      · cases b
        · exact fast clauses_11_6_false
        · exact fast clauses_11_6_true
      · cases b
        · exact fast clauses_11_7_false
        · exact fast clauses_11_7_true
      · cases b
        · exact fast clauses_11_8_false
        · exact fast clauses_11_8_true
      · cases b
        · exact fast clauses_11_9_false
        · exact fast clauses_11_9_true
      · cases b
        · exact fast clauses_11_10_false
        · exact fast clauses_11_10_true
    · obtain ⟨j, rfl⟩ : ∃ j, k = j + 11 := ⟨k - 11, by omega⟩
      exact out6k_11 j b
theorem out6n_12 (k : Nat) (b : Bool) : evF AB T1 200 6 [.int .i64 (.ofNat 12), .int .i64 (.negSucc k), .bool b] ⟨0, .nil, []⟩ yes = true := by kernel_rfl
theorem out6k_12 (k : Nat) (b : Bool) : evF AB T1 200 6 [.int .i64 (.ofNat 12), .int .i64 (.ofNat (k + 12)), .bool b] ⟨0, .nil, []⟩ yes = true := by kernel_rfl
theorem all6_12 (a1 : Int) (b : Bool) : evF AB T1 200 6 [.int .i64 (.ofNat 12), .int .i64 a1, .bool b] ⟨0, .nil, []⟩ yes = true := by
  cases a1 with
  | negSucc k => exact out6n_12 k b
  | ofNat k =>
    by_cases h : k < 12
    · have hk : k = 0 ∨ k = 1 ∨ k = 2 ∨ k = 3 ∨ k = 4 ∨ k = 5 ∨ k = 6 ∨ k = 7 ∨ k = 8 ∨ k = 9 ∨ k = 10 ∨ k = 11 := by omega
      rcases hk with rfl | rfl | rfl | rfl | rfl | rfl | rfl | rfl | rfl | rfl | rfl | rfl
      · cases b
        · exact fast clauses_12_0_false
        · exact fast clauses_12_0_true
      · cases b
        · exact fast clauses_12_1_false
        · exact fast clauses_12_1_true
      · cases b
        · exact fast clauses_12_2_false
        · exact fast clauses_12_2_true
      · cases b
        · exact fast clauses_12_3_false
        · exact fast clauses_12_3_true
      · cases b
        · exact fast clauses_12_4_false
        · exact fast clauses_12_4_true
      · cases b
        · exact fast clauses_12_5_false
        · exact fast clauses_12_5_true
      · cases b
        · exact fast clauses_12_6_false
        · exact fast clauses_12_6_true
      · cases b
        · exact fast clauses_12_7_false
        · exact fast clauses_12_7_true
      · cases b
        · exact fast clauses_12_8_false
        · exact fast clauses_12_8_true
      · cases b
        · exact fast clauses_12_9_false
        · exact fast clauses_12_9_true
      · cases b
        · exact fast clauses_12_10_false
        · exact fast clauses_12_10_true
      · cases b
        · exact fast clauses_12_11_false
        · exact fast clauses_12_11_true
    · obtain ⟨j, rfl⟩ : ∃ j, k = j + 12 := ⟨k - 12, by omega⟩
      exact out6k_12 j b
theorem all6 (a0 a1 : Int) (a2 : Bool) : evF AB T1 200 6 [.int .i64 a0, .int .i64 a1, .bool a2] ⟨0, .nil, []⟩ yes = true := by
  cases a0 with
  | negSucc m => exact out6a m a1 a2
  | ofNat m =>
    by_cases h : m < 13
    · have hm : m = 0 ∨ m = 1 ∨ m = 2 ∨ m = 3 ∨ m = 4 ∨ m = 5 ∨ m = 6 ∨ m = 7 ∨ m = 8 ∨ m = 9 ∨ m = 10 ∨ m = 11 ∨ m = 12 := by omega
      rcases hm with rfl | rfl | rfl | rfl | rfl | rfl | rfl | rfl | rfl | rfl | rfl | rfl | rfl
      · exact out6c a1 a2
      · exact all6_1 a1 a2
      · exact all6_2 a1 a2
      · exact all6_3 a1 a2
      · exact all6_4 a1 a2
      · exact all6_5 a1 a2
      · exact all6_6 a1 a2
      · exact all6_7 a1 a2
      · exact all6_8 a1 a2
      · exact all6_9 a1 a2
      · exact all6_10 a1 a2
      · exact all6_11 a1 a2
      · exact all6_12 a1 a2
    · obtain ⟨k, rfl⟩ : ∃ k, m = k + 13 := ⟨m - 13, by omega⟩
      exact out6b k a1 a2
theorem walk6 (a0 a1 : Int) (a2 : Bool) (w : World) : Calls Go.Proofs.Tryz.prog 6 #[.int .i64 a0, .int .i64 a1, .bool a2] w fun e w' => e = .returned (.bool true) ∧ Go.RowKit.Below w.heap.size w w' :=
  law_walk (fn := Go.Proofs.Tryz.f6) (us := [.int .i64 a0, .int .i64 a1, .bool a2]) (by kernel_rfl) rfl (ne_of_beq_false (by kernel_rfl)) (.cons (.int .i64 a0) (.cons (.int .i64 a1) (.cons (.bool a2) .nil))) (all6 a0 a1 a2) w
end Dt
