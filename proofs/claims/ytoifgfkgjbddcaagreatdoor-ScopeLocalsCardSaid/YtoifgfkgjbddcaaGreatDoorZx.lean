/- A part of the abstract machine and of the proof that the program does what it reckons; no conditions. -/
import Derived.Test.YtoifgfkgjbddcaaGreatDoorZy
set_option linter.all false
namespace Dt
open Go
set_option linter.all false
set_option maxRecDepth 100000
abbrev A3 (a b : Int) (c : Bool) : List AVal := [.int .i64 a, .int .i64 b, .bool c]
/-- Does a law answer true at a number, another, and either truth value? -/
noncomputable def runB (n k : Nat) (b : Bool) : Bool := Q.Z.evF T1q 200 5 (A3 (.ofNat n) (.ofNat k) b) ⟨0, .nil, []⟩ yes
noncomputable def rf (n k : Nat) : Bool := runB n k false
noncomputable def rt (n k : Nat) : Bool := runB n k true
/-- It does so for either truth value (each is reckoned by itself: the kernel's tables stay small). -/
structure Run3 (n k : Nat) : Prop where
  no : rf n k = true
  ok : rt n k = true
theorem run3_at {n k : Nat} (h : Run3 n k) (b : Bool) : evF AB T1 200 5 (A3 (.ofNat n) (.ofNat k) b) ⟨0, .nil, []⟩ yes = true := by
  cases b
  · exact fast h.no
  · exact fast h.ok
/-- What is so below a number. -/
def Below' (n m : Nat) : Prop := ∀ k, k < m → Run3 n k
theorem b0 {n : Nat} : Below' n 0 := fun k h => absurd h (Nat.not_lt_zero k)
theorem bs {n m : Nat} (h : Below' n m) (hf : rf n m = true) (ht : rt n m = true) : Below' n (m + 1) := fun k hk => by
  by_cases hkm : k = m
  · rw [hkm]; exact ⟨hf, ht⟩
  · exact h k (by omega)
def said (f : Nat) (a b : Int) (c : Bool) : Bool := evF AB T1 200 f (A3 a b c) ⟨0, .nil, []⟩ yes
theorem whole {n : Nat} (hb : Below' n n) (h1 : ∀ k c, said 5 (.ofNat n) (.negSucc k) c = true) (h2 : ∀ k c, said 5 (.ofNat n) (.ofNat (k + n)) c = true) (a : Int) (c : Bool) : said 5 (.ofNat n) a c = true := by
  cases a with
  | negSucc k => exact h1 k c
  | ofNat k =>
    by_cases h : k < n
    · exact run3_at (hb k h) c
    · obtain ⟨j, rfl⟩ : ∃ j, k = j + n := ⟨k - n, by omega⟩
      exact h2 j c
end Dt
