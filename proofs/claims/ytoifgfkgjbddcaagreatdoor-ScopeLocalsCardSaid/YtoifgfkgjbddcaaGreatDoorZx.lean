/- A part of the abstract machine and of the proof that the program does what it reckons; no conditions. -/
import Derived.Test.YtoifgfkgjbddcaaGreatDoorZy
set_option linter.all false
namespace Dt
open Go
set_option linter.all false
set_option maxRecDepth 100000
abbrev A3 (a b : Int) (c : Bool) : List AVal := [.int .i64 a, .int .i64 b, .bool c]
/-- Does a law answer true at a number, another, and either truth value? -/
noncomputable def run3 (f n k : Nat) : Bool := Q.Z.andB (Q.Z.evF T1q 200 f (A3 (.ofNat n) (.ofNat k) false) ⟨0, .nil, []⟩ yes) (Q.Z.evF T1q 200 f (A3 (.ofNat n) (.ofNat k) true) ⟨0, .nil, []⟩ yes)
theorem run3_at {f n k : Nat} (h : run3 f n k = true) (b : Bool) : evF AB T1 200 f (A3 (.ofNat n) (.ofNat k) b) ⟨0, .nil, []⟩ yes = true := by
  unfold run3 at h
  rw [Q.Z.andB_eq, Bool.and_eq_true] at h
  cases b
  · exact fast h.1
  · exact fast h.2
/-- What is so below a number. -/
def Below' (f n m : Nat) : Prop := ∀ k, k < m → run3 f n k = true
theorem b0 {f n : Nat} : Below' f n 0 := fun k h => absurd h (Nat.not_lt_zero k)
theorem bs {f n m : Nat} (h : Below' f n m) (hn : run3 f n m = true) : Below' f n (m + 1) := fun k hk => by
  by_cases hkm : k = m
  · rw [hkm]; exact hn
  · exact h k (by omega)
def said (f : Nat) (a b : Int) (c : Bool) : Bool := evF AB T1 200 f (A3 a b c) ⟨0, .nil, []⟩ yes
theorem whole {f n : Nat} (hb : Below' f n n) (h1 : ∀ k c, said f (.ofNat n) (.negSucc k) c = true) (h2 : ∀ k c, said f (.ofNat n) (.ofNat (k + n)) c = true) (a : Int) (c : Bool) : said f (.ofNat n) a c = true := by
  cases a with
  | negSucc k => exact h1 k c
  | ofNat k =>
    by_cases h : k < n
    · exact run3_at (hb k h) c
    · obtain ⟨j, rfl⟩ : ∃ j, k = j + n := ⟨k - n, by omega⟩
      exact h2 j c
end Dt
