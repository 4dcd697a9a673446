/- A part of the abstract machine and of the proof that the program does what it reckons; no conditions. -/
import Derived.Test.YtmndopeencbamaaEe
namespace Dt
open Go
theorem forms0 : law d5 [.int .i64 (.ofNat 0)] = true := by kernel_rfl
theorem forms1 : law d5 [.int .i64 (.ofNat 1)] = true := by kernel_rfl
theorem forms2 : law d5 [.int .i64 (.ofNat 2)] = true := by kernel_rfl
theorem forms3 : law d5 [.int .i64 (.ofNat 3)] = true := by kernel_rfl
theorem forms4 : law d5 [.int .i64 (.ofNat 4)] = true := by kernel_rfl
theorem forms5 : law d5 [.int .i64 (.ofNat 5)] = true := by kernel_rfl
theorem forms6 : law d5 [.int .i64 (.ofNat 6)] = true := by kernel_rfl
theorem forms7 : law d5 [.int .i64 (.ofNat 7)] = true := by kernel_rfl
theorem forms8 : law d5 [.int .i64 (.ofNat 8)] = true := by kernel_rfl
theorem forms9 : law d5 [.int .i64 (.ofNat 9)] = true := by kernel_rfl
theorem forms10 : law d5 [.int .i64 (.ofNat 10)] = true := by kernel_rfl
theorem forms11 : law d5 [.int .i64 (.ofNat 11)] = true := by kernel_rfl
theorem forms12 : law d5 [.int .i64 (.ofNat 12)] = true := by kernel_rfl
theorem forms13 : law d5 [.int .i64 (.ofNat 13)] = true := by kernel_rfl
theorem forms14 : law d5 [.int .i64 (.ofNat 14)] = true := by kernel_rfl
theorem forms15 : law d5 [.int .i64 (.ofNat 15)] = true := by kernel_rfl
theorem forms16 : law d5 [.int .i64 (.ofNat 16)] = true := by kernel_rfl
theorem forms17 : law d5 [.int .i64 (.ofNat 17)] = true := by kernel_rfl
theorem forms18 : law d5 [.int .i64 (.ofNat 18)] = true := by kernel_rfl
theorem forms19 : law d5 [.int .i64 (.ofNat 19)] = true := by kernel_rfl
theorem forms20 : law d5 [.int .i64 (.ofNat 20)] = true := by kernel_rfl
theorem forms21 : law d5 [.int .i64 (.ofNat 21)] = true := by kernel_rfl
theorem formsNeg (m : Nat) : law d5 [.int .i64 (.negSucc m)] = true := by kernel_rfl
theorem formsBig (m : Nat) : law d5 [.int .i64 (.ofNat (m + 22))] = true := by kernel_rfl
theorem forms (a : Int) : law d5 [.int .i64 a] = true := by
  match a with
  | .ofNat 0 => exact forms0
  | .ofNat 1 => exact forms1
  | .ofNat 2 => exact forms2
  | .ofNat 3 => exact forms3
  | .ofNat 4 => exact forms4
  | .ofNat 5 => exact forms5
  | .ofNat 6 => exact forms6
  | .ofNat 7 => exact forms7
  | .ofNat 8 => exact forms8
  | .ofNat 9 => exact forms9
  | .ofNat 10 => exact forms10
  | .ofNat 11 => exact forms11
  | .ofNat 12 => exact forms12
  | .ofNat 13 => exact forms13
  | .ofNat 14 => exact forms14
  | .ofNat 15 => exact forms15
  | .ofNat 16 => exact forms16
  | .ofNat 17 => exact forms17
  | .ofNat 18 => exact forms18
  | .ofNat 19 => exact forms19
  | .ofNat 20 => exact forms20
  | .ofNat 21 => exact forms21
  | .ofNat (m + 22) => exact formsBig m
  | .negSucc m => exact formsNeg m
end Dt
