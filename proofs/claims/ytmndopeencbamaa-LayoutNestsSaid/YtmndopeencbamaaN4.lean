/- A part of the abstract machine and of the proof that the program does what it reckons; no conditions. -/
import Derived.Test.YtmndopeencbamaaN3
namespace Dt
open Go
set_option linter.all false
set_option maxRecDepth 100000
theorem nest1x0 : law2 d4 [.int .i64 (.ofNat 1), .int .i64 (.ofNat 0)] = true := by kernel_rfl
theorem nest1x1 : law2 d4 [.int .i64 (.ofNat 1), .int .i64 (.ofNat 1)] = true := by kernel_rfl
theorem nest1big (m : Nat) : law2 d4 [.int .i64 (.ofNat 1), .int .i64 (.ofNat (m + 2))] = true := by kernel_rfl
theorem nest1neg (m : Nat) : law2 d4 [.int .i64 (.ofNat 1), .int .i64 (.negSucc m)] = true := by kernel_rfl
theorem nest1 (b : Int) : law2 d4 [.int .i64 (.ofNat 1), .int .i64 b] = true := by
  match b with
  | .ofNat 0 => exact nest1x0
  | .ofNat 1 => exact nest1x1
  | .ofNat (m + 2) => exact nest1big m
  | .negSucc m => exact nest1neg m
theorem nest2x0 : law2 d4 [.int .i64 (.ofNat 2), .int .i64 (.ofNat 0)] = true := by kernel_rfl
theorem nest2x1 : law2 d4 [.int .i64 (.ofNat 2), .int .i64 (.ofNat 1)] = true := by kernel_rfl
theorem nest2x2 : law2 d4 [.int .i64 (.ofNat 2), .int .i64 (.ofNat 2)] = true := by kernel_rfl
theorem nest2big (m : Nat) : law2 d4 [.int .i64 (.ofNat 2), .int .i64 (.ofNat (m + 3))] = true := by kernel_rfl
theorem nest2neg (m : Nat) : law2 d4 [.int .i64 (.ofNat 2), .int .i64 (.negSucc m)] = true := by kernel_rfl
theorem nest2 (b : Int) : law2 d4 [.int .i64 (.ofNat 2), .int .i64 b] = true := by
  match b with
  | .ofNat 0 => exact nest2x0
  | .ofNat 1 => exact nest2x1
  | .ofNat 2 => exact nest2x2
  | .ofNat (m + 3) => exact nest2big m
  | .negSucc m => exact nest2neg m
theorem nest3x0 : law2 d4 [.int .i64 (.ofNat 3), .int .i64 (.ofNat 0)] = true := by kernel_rfl
theorem nest3x1 : law2 d4 [.int .i64 (.ofNat 3), .int .i64 (.ofNat 1)] = true := by kernel_rfl
theorem nest3x2 : law2 d4 [.int .i64 (.ofNat 3), .int .i64 (.ofNat 2)] = true := by kernel_rfl
theorem nest3x3 : law2 d4 [.int .i64 (.ofNat 3), .int .i64 (.ofNat 3)] = true := by kernel_rfl
theorem nest3big (m : Nat) : law2 d4 [.int .i64 (.ofNat 3), .int .i64 (.ofNat (m + 4))] = true := by kernel_rfl
theorem nest3neg (m : Nat) : law2 d4 [.int .i64 (.ofNat 3), .int .i64 (.negSucc m)] = true := by kernel_rfl
theorem nest3 (b : Int) : law2 d4 [.int .i64 (.ofNat 3), .int .i64 b] = true := by
  match b with
  | .ofNat 0 => exact nest3x0
  | .ofNat 1 => exact nest3x1
  | .ofNat 2 => exact nest3x2
  | .ofNat 3 => exact nest3x3
  | .ofNat (m + 4) => exact nest3big m
  | .negSucc m => exact nest3neg m
theorem nest4x0 : law2 d4 [.int .i64 (.ofNat 4), .int .i64 (.ofNat 0)] = true := by kernel_rfl
theorem nest4x1 : law2 d4 [.int .i64 (.ofNat 4), .int .i64 (.ofNat 1)] = true := by kernel_rfl
theorem nest4x2 : law2 d4 [.int .i64 (.ofNat 4), .int .i64 (.ofNat 2)] = true := by kernel_rfl
theorem nest4x3 : law2 d4 [.int .i64 (.ofNat 4), .int .i64 (.ofNat 3)] = true := by kernel_rfl
theorem nest4x4 : law2 d4 [.int .i64 (.ofNat 4), .int .i64 (.ofNat 4)] = true := by kernel_rfl
theorem nest4big (m : Nat) : law2 d4 [.int .i64 (.ofNat 4), .int .i64 (.ofNat (m + 5))] = true := by kernel_rfl
theorem nest4neg (m : Nat) : law2 d4 [.int .i64 (.ofNat 4), .int .i64 (.negSucc m)] = true := by kernel_rfl
theorem nest4 (b : Int) : law2 d4 [.int .i64 (.ofNat 4), .int .i64 b] = true := by
  match b with
  | .ofNat 0 => exact nest4x0
  | .ofNat 1 => exact nest4x1
  | .ofNat 2 => exact nest4x2
  | .ofNat 3 => exact nest4x3
  | .ofNat 4 => exact nest4x4
  | .ofNat (m + 5) => exact nest4big m
  | .negSucc m => exact nest4neg m
theorem nest5x0 : law2 d4 [.int .i64 (.ofNat 5), .int .i64 (.ofNat 0)] = true := by kernel_rfl
theorem nest5x1 : law2 d4 [.int .i64 (.ofNat 5), .int .i64 (.ofNat 1)] = true := by kernel_rfl
theorem nest5x2 : law2 d4 [.int .i64 (.ofNat 5), .int .i64 (.ofNat 2)] = true := by kernel_rfl
theorem nest5x3 : law2 d4 [.int .i64 (.ofNat 5), .int .i64 (.ofNat 3)] = true := by kernel_rfl
theorem nest5x4 : law2 d4 [.int .i64 (.ofNat 5), .int .i64 (.ofNat 4)] = true := by kernel_rfl
theorem nest5x5 : law2 d4 [.int .i64 (.ofNat 5), .int .i64 (.ofNat 5)] = true := by kernel_rfl
theorem nest5big (m : Nat) : law2 d4 [.int .i64 (.ofNat 5), .int .i64 (.ofNat (m + 6))] = true := by kernel_rfl
theorem nest5neg (m : Nat) : law2 d4 [.int .i64 (.ofNat 5), .int .i64 (.negSucc m)] = true := by kernel_rfl
theorem nest5 (b : Int) : law2 d4 [.int .i64 (.ofNat 5), .int .i64 b] = true := by
  match b with
  | .ofNat 0 => exact nest5x0
  | .ofNat 1 => exact nest5x1
  | .ofNat 2 => exact nest5x2
  | .ofNat 3 => exact nest5x3
  | .ofNat 4 => exact nest5x4
  | .ofNat 5 => exact nest5x5
  | .ofNat (m + 6) => exact nest5big m
  | .negSucc m => exact nest5neg m
theorem nest6x0 : law2 d4 [.int .i64 (.ofNat 6), .int .i64 (.ofNat 0)] = true := by kernel_rfl
theorem nest6x1 : law2 d4 [.int .i64 (.ofNat 6), .int .i64 (.ofNat 1)] = true := by kernel_rfl
theorem nest6x2 : law2 d4 [.int .i64 (.ofNat 6), .int .i64 (.ofNat 2)] = true := by kernel_rfl
theorem nest6x3 : law2 d4 [.int .i64 (.ofNat 6), .int .i64 (.ofNat 3)] = true := by kernel_rfl
theorem nest6x4 : law2 d4 [.int .i64 (.ofNat 6), .int .i64 (.ofNat 4)] = true := by kernel_rfl
theorem nest6x5 : law2 d4 [.int .i64 (.ofNat 6), .int .i64 (.ofNat 5)] = true := by kernel_rfl
theorem nest6x6 : law2 d4 [.int .i64 (.ofNat 6), .int .i64 (.ofNat 6)] = true := by kernel_rfl
theorem nest6big (m : Nat) : law2 d4 [.int .i64 (.ofNat 6), .int .i64 (.ofNat (m + 7))] = true := by kernel_rfl
theorem nest6neg (m : Nat) : law2 d4 [.int .i64 (.ofNat 6), .int .i64 (.negSucc m)] = true := by kernel_rfl
theorem nest6 (b : Int) : law2 d4 [.int .i64 (.ofNat 6), .int .i64 b] = true := by
  match b with
  | .ofNat 0 => exact nest6x0
  | .ofNat 1 => exact nest6x1
  | .ofNat 2 => exact nest6x2
  | .ofNat 3 => exact nest6x3
  | .ofNat 4 => exact nest6x4
  | .ofNat 5 => exact nest6x5
  | .ofNat 6 => exact nest6x6
  | .ofNat (m + 7) => exact nest6big m
  | .negSucc m => exact nest6neg m
theorem nest7x0 : law2 d4 [.int .i64 (.ofNat 7), .int .i64 (.ofNat 0)] = true := by kernel_rfl
theorem nest7x1 : law2 d4 [.int .i64 (.ofNat 7), .int .i64 (.ofNat 1)] = true := by kernel_rfl
theorem nest7x2 : law2 d4 [.int .i64 (.ofNat 7), .int .i64 (.ofNat 2)] = true := by kernel_rfl
theorem nest7x3 : law2 d4 [.int .i64 (.ofNat 7), .int .i64 (.ofNat 3)] = true := by kernel_rfl
theorem nest7x4 : law2 d4 [.int .i64 (.ofNat 7), .int .i64 (.ofNat 4)] = true := by kernel_rfl
theorem nest7x5 : law2 d4 [.int .i64 (.ofNat 7), .int .i64 (.ofNat 5)] = true := by kernel_rfl
theorem nest7x6 : law2 d4 [.int .i64 (.ofNat 7), .int .i64 (.ofNat 6)] = true := by kernel_rfl
theorem nest7x7 : law2 d4 [.int .i64 (.ofNat 7), .int .i64 (.ofNat 7)] = true := by kernel_rfl
theorem nest7big (m : Nat) : law2 d4 [.int .i64 (.ofNat 7), .int .i64 (.ofNat (m + 8))] = true := by kernel_rfl
theorem nest7neg (m : Nat) : law2 d4 [.int .i64 (.ofNat 7), .int .i64 (.negSucc m)] = true := by kernel_rfl
theorem nest7 (b : Int) : law2 d4 [.int .i64 (.ofNat 7), .int .i64 b] = true := by
  match b with
  | .ofNat 0 => exact nest7x0
  | .ofNat 1 => exact nest7x1
  | .ofNat 2 => exact nest7x2
  | .ofNat 3 => exact nest7x3
  | .ofNat 4 => exact nest7x4
  | .ofNat 5 => exact nest7x5
  | .ofNat 6 => exact nest7x6
  | .ofNat 7 => exact nest7x7
  | .ofNat (m + 8) => exact nest7big m
  | .negSucc m => exact nest7neg m
theorem nest8x0 : law2 d4 [.int .i64 (.ofNat 8), .int .i64 (.ofNat 0)] = true := by kernel_rfl
theorem nest8x1 : law2 d4 [.int .i64 (.ofNat 8), .int .i64 (.ofNat 1)] = true := by kernel_rfl
theorem nest8x2 : law2 d4 [.int .i64 (.ofNat 8), .int .i64 (.ofNat 2)] = true := by kernel_rfl
theorem nest8x3 : law2 d4 [.int .i64 (.ofNat 8), .int .i64 (.ofNat 3)] = true := by kernel_rfl
theorem nest8x4 : law2 d4 [.int .i64 (.ofNat 8), .int .i64 (.ofNat 4)] = true := by kernel_rfl
theorem nest8x5 : law2 d4 [.int .i64 (.ofNat 8), .int .i64 (.ofNat 5)] = true := by kernel_rfl
theorem nest8x6 : law2 d4 [.int .i64 (.ofNat 8), .int .i64 (.ofNat 6)] = true := by kernel_rfl
theorem nest8x7 : law2 d4 [.int .i64 (.ofNat 8), .int .i64 (.ofNat 7)] = true := by kernel_rfl
theorem nest8x8 : law2 d4 [.int .i64 (.ofNat 8), .int .i64 (.ofNat 8)] = true := by kernel_rfl
theorem nest8big (m : Nat) : law2 d4 [.int .i64 (.ofNat 8), .int .i64 (.ofNat (m + 9))] = true := by kernel_rfl
theorem nest8neg (m : Nat) : law2 d4 [.int .i64 (.ofNat 8), .int .i64 (.negSucc m)] = true := by kernel_rfl
theorem nest8 (b : Int) : law2 d4 [.int .i64 (.ofNat 8), .int .i64 b] = true := by
  match b with
  | .ofNat 0 => exact nest8x0
  | .ofNat 1 => exact nest8x1
  | .ofNat 2 => exact nest8x2
  | .ofNat 3 => exact nest8x3
  | .ofNat 4 => exact nest8x4
  | .ofNat 5 => exact nest8x5
  | .ofNat 6 => exact nest8x6
  | .ofNat 7 => exact nest8x7
  | .ofNat 8 => exact nest8x8
  | .ofNat (m + 9) => exact nest8big m
  | .negSucc m => exact nest8neg m
theorem nest9x0 : law2 d4 [.int .i64 (.ofNat 9), .int .i64 (.ofNat 0)] = true := by kernel_rfl
theorem nest9x1 : law2 d4 [.int .i64 (.ofNat 9), .int .i64 (.ofNat 1)] = true := by kernel_rfl
theorem nest9x2 : law2 d4 [.int .i64 (.ofNat 9), .int .i64 (.ofNat 2)] = true := by kernel_rfl
theorem nest9x3 : law2 d4 [.int .i64 (.ofNat 9), .int .i64 (.ofNat 3)] = true := by kernel_rfl
theorem nest9x4 : law2 d4 [.int .i64 (.ofNat 9), .int .i64 (.ofNat 4)] = true := by kernel_rfl
theorem nest9x5 : law2 d4 [.int .i64 (.ofNat 9), .int .i64 (.ofNat 5)] = true := by kernel_rfl
theorem nest9x6 : law2 d4 [.int .i64 (.ofNat 9), .int .i64 (.ofNat 6)] = true := by kernel_rfl
theorem nest9x7 : law2 d4 [.int .i64 (.ofNat 9), .int .i64 (.ofNat 7)] = true := by kernel_rfl
theorem nest9x8 : law2 d4 [.int .i64 (.ofNat 9), .int .i64 (.ofNat 8)] = true := by kernel_rfl
theorem nest9x9 : law2 d4 [.int .i64 (.ofNat 9), .int .i64 (.ofNat 9)] = true := by kernel_rfl
theorem nest9big (m : Nat) : law2 d4 [.int .i64 (.ofNat 9), .int .i64 (.ofNat (m + 10))] = true := by kernel_rfl
theorem nest9neg (m : Nat) : law2 d4 [.int .i64 (.ofNat 9), .int .i64 (.negSucc m)] = true := by kernel_rfl
theorem nest9 (b : Int) : law2 d4 [.int .i64 (.ofNat 9), .int .i64 b] = true := by
  match b with
  | .ofNat 0 => exact nest9x0
  | .ofNat 1 => exact nest9x1
  | .ofNat 2 => exact nest9x2
  | .ofNat 3 => exact nest9x3
  | .ofNat 4 => exact nest9x4
  | .ofNat 5 => exact nest9x5
  | .ofNat 6 => exact nest9x6
  | .ofNat 7 => exact nest9x7
  | .ofNat 8 => exact nest9x8
  | .ofNat 9 => exact nest9x9
  | .ofNat (m + 10) => exact nest9big m
  | .negSucc m => exact nest9neg m
theorem nest10x0 : law2 d4 [.int .i64 (.ofNat 10), .int .i64 (.ofNat 0)] = true := by kernel_rfl
theorem nest10x1 : law2 d4 [.int .i64 (.ofNat 10), .int .i64 (.ofNat 1)] = true := by kernel_rfl
theorem nest10x2 : law2 d4 [.int .i64 (.ofNat 10), .int .i64 (.ofNat 2)] = true := by kernel_rfl
theorem nest10x3 : law2 d4 [.int .i64 (.ofNat 10), .int .i64 (.ofNat 3)] = true := by kernel_rfl
theorem nest10x4 : law2 d4 [.int .i64 (.ofNat 10), .int .i64 (.ofNat 4)] = true := by kernel_rfl
theorem nest10x5 : law2 d4 [.int .i64 (.ofNat 10), .int .i64 (.ofNat 5)] = true := by kernel_rfl
theorem nest10x6 : law2 d4 [.int .i64 (.ofNat 10), .int .i64 (.ofNat 6)] = true := by kernel_rfl
theorem nest10x7 : law2 d4 [.int .i64 (.ofNat 10), .int .i64 (.ofNat 7)] = true := by kernel_rfl
theorem nest10x8 : law2 d4 [.int .i64 (.ofNat 10), .int .i64 (.ofNat 8)] = true := by kernel_rfl
theorem nest10x9 : law2 d4 [.int .i64 (.ofNat 10), .int .i64 (.ofNat 9)] = true := by kernel_rfl
theorem nest10x10 : law2 d4 [.int .i64 (.ofNat 10), .int .i64 (.ofNat 10)] = true := by kernel_rfl
theorem nest10big (m : Nat) : law2 d4 [.int .i64 (.ofNat 10), .int .i64 (.ofNat (m + 11))] = true := by kernel_rfl
theorem nest10neg (m : Nat) : law2 d4 [.int .i64 (.ofNat 10), .int .i64 (.negSucc m)] = true := by kernel_rfl
theorem nest10 (b : Int) : law2 d4 [.int .i64 (.ofNat 10), .int .i64 b] = true := by
  match b with
  | .ofNat 0 => exact nest10x0
  | .ofNat 1 => exact nest10x1
  | .ofNat 2 => exact nest10x2
  | .ofNat 3 => exact nest10x3
  | .ofNat 4 => exact nest10x4
  | .ofNat 5 => exact nest10x5
  | .ofNat 6 => exact nest10x6
  | .ofNat 7 => exact nest10x7
  | .ofNat 8 => exact nest10x8
  | .ofNat 9 => exact nest10x9
  | .ofNat 10 => exact nest10x10
  | .ofNat (m + 11) => exact nest10big m
  | .negSucc m => exact nest10neg m
theorem nest11x0 : law2 d4 [.int .i64 (.ofNat 11), .int .i64 (.ofNat 0)] = true := by kernel_rfl
theorem nest11x1 : law2 d4 [.int .i64 (.ofNat 11), .int .i64 (.ofNat 1)] = true := by kernel_rfl
theorem nest11x2 : law2 d4 [.int .i64 (.ofNat 11), .int .i64 (.ofNat 2)] = true := by kernel_rfl
theorem nest11x3 : law2 d4 [.int .i64 (.ofNat 11), .int .i64 (.ofNat 3)] = true := by kernel_rfl
theorem nest11x4 : law2 d4 [.int .i64 (.ofNat 11), .int .i64 (.ofNat 4)] = true := by kernel_rfl
theorem nest11x5 : law2 d4 [.int .i64 (.ofNat 11), .int .i64 (.ofNat 5)] = true := by kernel_rfl
theorem nest11x6 : law2 d4 [.int .i64 (.ofNat 11), .int .i64 (.ofNat 6)] = true := by kernel_rfl
theorem nest11x7 : law2 d4 [.int .i64 (.ofNat 11), .int .i64 (.ofNat 7)] = true := by kernel_rfl
theorem nest11x8 : law2 d4 [.int .i64 (.ofNat 11), .int .i64 (.ofNat 8)] = true := by kernel_rfl
theorem nest11x9 : law2 d4 [.int .i64 (.ofNat 11), .int .i64 (.ofNat 9)] = true := by kernel_rfl
theorem nest11x10 : law2 d4 [.int .i64 (.ofNat 11), .int .i64 (.ofNat 10)] = true := by kernel_rfl
theorem nest11x11 : law2 d4 [.int .i64 (.ofNat 11), .int .i64 (.ofNat 11)] = true := by kernel_rfl
theorem nest11big (m : Nat) : law2 d4 [.int .i64 (.ofNat 11), .int .i64 (.ofNat (m + 12))] = true := by kernel_rfl
theorem nest11neg (m : Nat) : law2 d4 [.int .i64 (.ofNat 11), .int .i64 (.negSucc m)] = true := by kernel_rfl
theorem nest11 (b : Int) : law2 d4 [.int .i64 (.ofNat 11), .int .i64 b] = true := by
  match b with
  | .ofNat 0 => exact nest11x0
  | .ofNat 1 => exact nest11x1
  | .ofNat 2 => exact nest11x2
  | .ofNat 3 => exact nest11x3
  | .ofNat 4 => exact nest11x4
  | .ofNat 5 => exact nest11x5
  | .ofNat 6 => exact nest11x6
  | .ofNat 7 => exact nest11x7
  | .ofNat 8 => exact nest11x8
  | .ofNat 9 => exact nest11x9
  | .ofNat 10 => exact nest11x10
  | .ofNat 11 => exact nest11x11
  | .ofNat (m + 12) => exact nest11big m
  | .negSucc m => exact nest11neg m
theorem nest12x0 : law2 d4 [.int .i64 (.ofNat 12), .int .i64 (.ofNat 0)] = true := by kernel_rfl
theorem nest12x1 : law2 d4 [.int .i64 (.ofNat 12), .int .i64 (.ofNat 1)] = true := by kernel_rfl
theorem nest12x2 : law2 d4 [.int .i64 (.ofNat 12), .int .i64 (.ofNat 2)] = true := by kernel_rfl
theorem nest12x3 : law2 d4 [.int .i64 (.ofNat 12), .int .i64 (.ofNat 3)] = true := by kernel_rfl
theorem nest12x4 : law2 d4 [.int .i64 (.ofNat 12), .int .i64 (.ofNat 4)] = true := by kernel_rfl
theorem nest12x5 : law2 d4 [.int .i64 (.ofNat 12), .int .i64 (.ofNat 5)] = true := by kernel_rfl
theorem nest12x6 : law2 d4 [.int .i64 (.ofNat 12), .int .i64 (.ofNat 6)] = true := by kernel_rfl
theorem nest12x7 : law2 d4 [.int .i64 (.ofNat 12), .int .i64 (.ofNat 7)] = true := by kernel_rfl
theorem nest12x8 : law2 d4 [.int .i64 (.ofNat 12), .int .i64 (.ofNat 8)] = true := by kernel_rfl
theorem nest12x9 : law2 d4 [.int .i64 (.ofNat 12), .int .i64 (.ofNat 9)] = true := by kernel_rfl
theorem nest12x10 : law2 d4 [.int .i64 (.ofNat 12), .int .i64 (.ofNat 10)] = true := by kernel_rfl
theorem nest12x11 : law2 d4 [.int .i64 (.ofNat 12), .int .i64 (.ofNat 11)] = true := by kernel_rfl
theorem nest12x12 : law2 d4 [.int .i64 (.ofNat 12), .int .i64 (.ofNat 12)] = true := by kernel_rfl
theorem nest12big (m : Nat) : law2 d4 [.int .i64 (.ofNat 12), .int .i64 (.ofNat (m + 13))] = true := by kernel_rfl
theorem nest12neg (m : Nat) : law2 d4 [.int .i64 (.ofNat 12), .int .i64 (.negSucc m)] = true := by kernel_rfl
theorem nest12 (b : Int) : law2 d4 [.int .i64 (.ofNat 12), .int .i64 b] = true := by
  match b with
  | .ofNat 0 => exact nest12x0
  | .ofNat 1 => exact nest12x1
  | .ofNat 2 => exact nest12x2
  | .ofNat 3 => exact nest12x3
  | .ofNat 4 => exact nest12x4
  | .ofNat 5 => exact nest12x5
  | .ofNat 6 => exact nest12x6
  | .ofNat 7 => exact nest12x7
  | .ofNat 8 => exact nest12x8
  | .ofNat 9 => exact nest12x9
  | .ofNat 10 => exact nest12x10
  | .ofNat 11 => exact nest12x11
  | .ofNat 12 => exact nest12x12
  | .ofNat (m + 13) => exact nest12big m
  | .negSucc m => exact nest12neg m
theorem nest13x0 : law2 d4 [.int .i64 (.ofNat 13), .int .i64 (.ofNat 0)] = true := by kernel_rfl
theorem nest13x1 : law2 d4 [.int .i64 (.ofNat 13), .int .i64 (.ofNat 1)] = true := by kernel_rfl
theorem nest13x2 : law2 d4 [.int .i64 (.ofNat 13), .int .i64 (.ofNat 2)] = true := by kernel_rfl
theorem nest13x3 : law2 d4 [.int .i64 (.ofNat 13), .int .i64 (.ofNat 3)] = true := by kernel_rfl
theorem nest13x4 : law2 d4 [.int .i64 (.ofNat 13), .int .i64 (.ofNat 4)] = true := by kernel_rfl
theorem nest13x5 : law2 d4 [.int .i64 (.ofNat 13), .int .i64 (.ofNat 5)] = true := by kernel_rfl
theorem nest13x6 : law2 d4 [.int .i64 (.ofNat 13), .int .i64 (.ofNat 6)] = true := by kernel_rfl
theorem nest13x7 : law2 d4 [.int .i64 (.ofNat 13), .int .i64 (.ofNat 7)] = true := by kernel_rfl
theorem nest13x8 : law2 d4 [.int .i64 (.ofNat 13), .int .i64 (.ofNat 8)] = true := by kernel_rfl
theorem nest13x9 : law2 d4 [.int .i64 (.ofNat 13), .int .i64 (.ofNat 9)] = true := by kernel_rfl
theorem nest13x10 : law2 d4 [.int .i64 (.ofNat 13), .int .i64 (.ofNat 10)] = true := by kernel_rfl
theorem nest13x11 : law2 d4 [.int .i64 (.ofNat 13), .int .i64 (.ofNat 11)] = true := by kernel_rfl
theorem nest13x12 : law2 d4 [.int .i64 (.ofNat 13), .int .i64 (.ofNat 12)] = true := by kernel_rfl
theorem nest13x13 : law2 d4 [.int .i64 (.ofNat 13), .int .i64 (.ofNat 13)] = true := by kernel_rfl
theorem nest13big (m : Nat) : law2 d4 [.int .i64 (.ofNat 13), .int .i64 (.ofNat (m + 14))] = true := by kernel_rfl
theorem nest13neg (m : Nat) : law2 d4 [.int .i64 (.ofNat 13), .int .i64 (.negSucc m)] = true := by kernel_rfl
theorem nest13 (b : Int) : law2 d4 [.int .i64 (.ofNat 13), .int .i64 b] = true := by
  match b with
  | .ofNat 0 => exact nest13x0
  | .ofNat 1 => exact nest13x1
  | .ofNat 2 => exact nest13x2
  | .ofNat 3 => exact nest13x3
  | .ofNat 4 => exact nest13x4
  | .ofNat 5 => exact nest13x5
  | .ofNat 6 => exact nest13x6
  | .ofNat 7 => exact nest13x7
  | .ofNat 8 => exact nest13x8
  | .ofNat 9 => exact nest13x9
  | .ofNat 10 => exact nest13x10
  | .ofNat 11 => exact nest13x11
  | .ofNat 12 => exact nest13x12
  | .ofNat 13 => exact nest13x13
  | .ofNat (m + 14) => exact nest13big m
  | .negSucc m => exact nest13neg m
theorem nest14x0 : law2 d4 [.int .i64 (.ofNat 14), .int .i64 (.ofNat 0)] = true := by kernel_rfl
theorem nest14x1 : law2 d4 [.int .i64 (.ofNat 14), .int .i64 (.ofNat 1)] = true := by kernel_rfl
theorem nest14x2 : law2 d4 [.int .i64 (.ofNat 14), .int .i64 (.ofNat 2)] = true := by kernel_rfl
theorem nest14x3 : law2 d4 [.int .i64 (.ofNat 14), .int .i64 (.ofNat 3)] = true := by kernel_rfl
theorem nest14x4 : law2 d4 [.int .i64 (.ofNat 14), .int .i64 (.ofNat 4)] = true := by kernel_rfl
theorem nest14x5 : law2 d4 [.int .i64 (.ofNat 14), .int .i64 (.ofNat 5)] = true := by kernel_rfl
theorem nest14x6 : law2 d4 [.int .i64 (.ofNat 14), .int .i64 (.ofNat 6)] = true := by kernel_rfl
theorem nest14x7 : law2 d4 [.int .i64 (.ofNat 14), .int .i64 (.ofNat 7)] = true := by kernel_rfl
theorem nest14x8 : law2 d4 [.int .i64 (.ofNat 14), .int .i64 (.ofNat 8)] = true := by kernel_rfl
theorem nest14x9 : law2 d4 [.int .i64 (.ofNat 14), .int .i64 (.ofNat 9)] = true := by kernel_rfl
theorem nest14x10 : law2 d4 [.int .i64 (.ofNat 14), .int .i64 (.ofNat 10)] = true := by kernel_rfl
theorem nest14x11 : law2 d4 [.int .i64 (.ofNat 14), .int .i64 (.ofNat 11)] = true := by kernel_rfl
theorem nest14x12 : law2 d4 [.int .i64 (.ofNat 14), .int .i64 (.ofNat 12)] = true := by kernel_rfl
theorem nest14x13 : law2 d4 [.int .i64 (.ofNat 14), .int .i64 (.ofNat 13)] = true := by kernel_rfl
theorem nest14x14 : law2 d4 [.int .i64 (.ofNat 14), .int .i64 (.ofNat 14)] = true := by kernel_rfl
theorem nest14big (m : Nat) : law2 d4 [.int .i64 (.ofNat 14), .int .i64 (.ofNat (m + 15))] = true := by kernel_rfl
theorem nest14neg (m : Nat) : law2 d4 [.int .i64 (.ofNat 14), .int .i64 (.negSucc m)] = true := by kernel_rfl
theorem nest14 (b : Int) : law2 d4 [.int .i64 (.ofNat 14), .int .i64 b] = true := by
  match b with
  | .ofNat 0 => exact nest14x0
  | .ofNat 1 => exact nest14x1
  | .ofNat 2 => exact nest14x2
  | .ofNat 3 => exact nest14x3
  | .ofNat 4 => exact nest14x4
  | .ofNat 5 => exact nest14x5
  | .ofNat 6 => exact nest14x6
  | .ofNat 7 => exact nest14x7
  | .ofNat 8 => exact nest14x8
  | .ofNat 9 => exact nest14x9
  | .ofNat 10 => exact nest14x10
  | .ofNat 11 => exact nest14x11
  | .ofNat 12 => exact nest14x12
  | .ofNat 13 => exact nest14x13
  | .ofNat 14 => exact nest14x14
  | .ofNat (m + 15) => exact nest14big m
  | .negSucc m => exact nest14neg m
theorem nest15x0 : law2 d4 [.int .i64 (.ofNat 15), .int .i64 (.ofNat 0)] = true := by kernel_rfl
theorem nest15x1 : law2 d4 [.int .i64 (.ofNat 15), .int .i64 (.ofNat 1)] = true := by kernel_rfl
theorem nest15x2 : law2 d4 [.int .i64 (.ofNat 15), .int .i64 (.ofNat 2)] = true := by kernel_rfl
theorem nest15x3 : law2 d4 [.int .i64 (.ofNat 15), .int .i64 (.ofNat 3)] = true := by kernel_rfl
theorem nest15x4 : law2 d4 [.int .i64 (.ofNat 15), .int .i64 (.ofNat 4)] = true := by kernel_rfl
theorem nest15x5 : law2 d4 [.int .i64 (.ofNat 15), .int .i64 (.ofNat 5)] = true := by kernel_rfl
theorem nest15x6 : law2 d4 [.int .i64 (.ofNat 15), .int .i64 (.ofNat 6)] = true := by kernel_rfl
theorem nest15x7 : law2 d4 [.int .i64 (.ofNat 15), .int .i64 (.ofNat 7)] = true := by kernel_rfl
theorem nest15x8 : law2 d4 [.int .i64 (.ofNat 15), .int .i64 (.ofNat 8)] = true := by kernel_rfl
theorem nest15x9 : law2 d4 [.int .i64 (.ofNat 15), .int .i64 (.ofNat 9)] = true := by kernel_rfl
theorem nest15x10 : law2 d4 [.int .i64 (.ofNat 15), .int .i64 (.ofNat 10)] = true := by kernel_rfl
theorem nest15x11 : law2 d4 [.int .i64 (.ofNat 15), .int .i64 (.ofNat 11)] = true := by kernel_rfl
theorem nest15x12 : law2 d4 [.int .i64 (.ofNat 15), .int .i64 (.ofNat 12)] = true := by kernel_rfl
theorem nest15x13 : law2 d4 [.int .i64 (.ofNat 15), .int .i64 (.ofNat 13)] = true := by kernel_rfl
theorem nest15x14 : law2 d4 [.int .i64 (.ofNat 15), .int .i64 (.ofNat 14)] = true := by kernel_rfl
theorem nest15x15 : law2 d4 [.int .i64 (.ofNat 15), .int .i64 (.ofNat 15)] = true := by kernel_rfl
theorem nest15big (m : Nat) : law2 d4 [.int .i64 (.ofNat 15), .int .i64 (.ofNat (m + 16))] = true := by kernel_rfl
theorem nest15neg (m : Nat) : law2 d4 [.int .i64 (.ofNat 15), .int .i64 (.negSucc m)] = true := by kernel_rfl
theorem nest15 (b : Int) : law2 d4 [.int .i64 (.ofNat 15), .int .i64 b] = true := by
  match b with
  | .ofNat 0 => exact nest15x0
  | .ofNat 1 => exact nest15x1
  | .ofNat 2 => exact nest15x2
  | .ofNat 3 => exact nest15x3
  | .ofNat 4 => exact nest15x4
  | .ofNat 5 => exact nest15x5
  | .ofNat 6 => exact nest15x6
  | .ofNat 7 => exact nest15x7
  | .ofNat 8 => exact nest15x8
  | .ofNat 9 => exact nest15x9
  | .ofNat 10 => exact nest15x10
  | .ofNat 11 => exact nest15x11
  | .ofNat 12 => exact nest15x12
  | .ofNat 13 => exact nest15x13
  | .ofNat 14 => exact nest15x14
  | .ofNat 15 => exact nest15x15
  | .ofNat (m + 16) => exact nest15big m
  | .negSucc m => exact nest15neg m
theorem nest16x0 : law2 d4 [.int .i64 (.ofNat 16), .int .i64 (.ofNat 0)] = true := by kernel_rfl
theorem nest16x1 : law2 d4 [.int .i64 (.ofNat 16), .int .i64 (.ofNat 1)] = true := by kernel_rfl
theorem nest16x2 : law2 d4 [.int .i64 (.ofNat 16), .int .i64 (.ofNat 2)] = true := by kernel_rfl
theorem nest16x3 : law2 d4 [.int .i64 (.ofNat 16), .int .i64 (.ofNat 3)] = true := by kernel_rfl
theorem nest16x4 : law2 d4 [.int .i64 (.ofNat 16), .int .i64 (.ofNat 4)] = true := by kernel_rfl
theorem nest16x5 : law2 d4 [.int .i64 (.ofNat 16), .int .i64 (.ofNat 5)] = true := by kernel_rfl
theorem nest16x6 : law2 d4 [.int .i64 (.ofNat 16), .int .i64 (.ofNat 6)] = true := by kernel_rfl
theorem nest16x7 : law2 d4 [.int .i64 (.ofNat 16), .int .i64 (.ofNat 7)] = true := by kernel_rfl
theorem nest16x8 : law2 d4 [.int .i64 (.ofNat 16), .int .i64 (.ofNat 8)] = true := by kernel_rfl
theorem nest16x9 : law2 d4 [.int .i64 (.ofNat 16), .int .i64 (.ofNat 9)] = true := by kernel_rfl
theorem nest16x10 : law2 d4 [.int .i64 (.ofNat 16), .int .i64 (.ofNat 10)] = true := by kernel_rfl
theorem nest16x11 : law2 d4 [.int .i64 (.ofNat 16), .int .i64 (.ofNat 11)] = true := by kernel_rfl
theorem nest16x12 : law2 d4 [.int .i64 (.ofNat 16), .int .i64 (.ofNat 12)] = true := by kernel_rfl
theorem nest16x13 : law2 d4 [.int .i64 (.ofNat 16), .int .i64 (.ofNat 13)] = true := by kernel_rfl
theorem nest16x14 : law2 d4 [.int .i64 (.ofNat 16), .int .i64 (.ofNat 14)] = true := by kernel_rfl
theorem nest16x15 : law2 d4 [.int .i64 (.ofNat 16), .int .i64 (.ofNat 15)] = true := by kernel_rfl
theorem nest16x16 : law2 d4 [.int .i64 (.ofNat 16), .int .i64 (.ofNat 16)] = true := by kernel_rfl
theorem nest16big (m : Nat) : law2 d4 [.int .i64 (.ofNat 16), .int .i64 (.ofNat (m + 17))] = true := by kernel_rfl
theorem nest16neg (m : Nat) : law2 d4 [.int .i64 (.ofNat 16), .int .i64 (.negSucc m)] = true := by kernel_rfl
theorem nest16 (b : Int) : law2 d4 [.int .i64 (.ofNat 16), .int .i64 b] = true := by
  match b with
  | .ofNat 0 => exact nest16x0
  | .ofNat 1 => exact nest16x1
  | .ofNat 2 => exact nest16x2
  | .ofNat 3 => exact nest16x3
  | .ofNat 4 => exact nest16x4
  | .ofNat 5 => exact nest16x5
  | .ofNat 6 => exact nest16x6
  | .ofNat 7 => exact nest16x7
  | .ofNat 8 => exact nest16x8
  | .ofNat 9 => exact nest16x9
  | .ofNat 10 => exact nest16x10
  | .ofNat 11 => exact nest16x11
  | .ofNat 12 => exact nest16x12
  | .ofNat 13 => exact nest16x13
  | .ofNat 14 => exact nest16x14
  | .ofNat 15 => exact nest16x15
  | .ofNat 16 => exact nest16x16
  | .ofNat (m + 17) => exact nest16big m
  | .negSucc m => exact nest16neg m
theorem nest17x0 : law2 d4 [.int .i64 (.ofNat 17), .int .i64 (.ofNat 0)] = true := by kernel_rfl
theorem nest17x1 : law2 d4 [.int .i64 (.ofNat 17), .int .i64 (.ofNat 1)] = true := by kernel_rfl
theorem nest17x2 : law2 d4 [.int .i64 (.ofNat 17), .int .i64 (.ofNat 2)] = true := by kernel_rfl
theorem nest17x3 : law2 d4 [.int .i64 (.ofNat 17), .int .i64 (.ofNat 3)] = true := by kernel_rfl
theorem nest17x4 : law2 d4 [.int .i64 (.ofNat 17), .int .i64 (.ofNat 4)] = true := by kernel_rfl
theorem nest17x5 : law2 d4 [.int .i64 (.ofNat 17), .int .i64 (.ofNat 5)] = true := by kernel_rfl
theorem nest17x6 : law2 d4 [.int .i64 (.ofNat 17), .int .i64 (.ofNat 6)] = true := by kernel_rfl
theorem nest17x7 : law2 d4 [.int .i64 (.ofNat 17), .int .i64 (.ofNat 7)] = true := by kernel_rfl
theorem nest17x8 : law2 d4 [.int .i64 (.ofNat 17), .int .i64 (.ofNat 8)] = true := by kernel_rfl
theorem nest17x9 : law2 d4 [.int .i64 (.ofNat 17), .int .i64 (.ofNat 9)] = true := by kernel_rfl
theorem nest17x10 : law2 d4 [.int .i64 (.ofNat 17), .int .i64 (.ofNat 10)] = true := by kernel_rfl
theorem nest17x11 : law2 d4 [.int .i64 (.ofNat 17), .int .i64 (.ofNat 11)] = true := by kernel_rfl
theorem nest17x12 : law2 d4 [.int .i64 (.ofNat 17), .int .i64 (.ofNat 12)] = true := by kernel_rfl
theorem nest17x13 : law2 d4 [.int .i64 (.ofNat 17), .int .i64 (.ofNat 13)] = true := by kernel_rfl
theorem nest17x14 : law2 d4 [.int .i64 (.ofNat 17), .int .i64 (.ofNat 14)] = true := by kernel_rfl
theorem nest17x15 : law2 d4 [.int .i64 (.ofNat 17), .int .i64 (.ofNat 15)] = true := by kernel_rfl
theorem nest17x16 : law2 d4 [.int .i64 (.ofNat 17), .int .i64 (.ofNat 16)] = true := by kernel_rfl
theorem nest17x17 : law2 d4 [.int .i64 (.ofNat 17), .int .i64 (.ofNat 17)] = true := by kernel_rfl
theorem nest17big (m : Nat) : law2 d4 [.int .i64 (.ofNat 17), .int .i64 (.ofNat (m + 18))] = true := by kernel_rfl
theorem nest17neg (m : Nat) : law2 d4 [.int .i64 (.ofNat 17), .int .i64 (.negSucc m)] = true := by kernel_rfl
theorem nest17 (b : Int) : law2 d4 [.int .i64 (.ofNat 17), .int .i64 b] = true := by
  match b with
  | .ofNat 0 => exact nest17x0
  | .ofNat 1 => exact nest17x1
  | .ofNat 2 => exact nest17x2
  | .ofNat 3 => exact nest17x3
  | .ofNat 4 => exact nest17x4
  | .ofNat 5 => exact nest17x5
  | .ofNat 6 => exact nest17x6
  | .ofNat 7 => exact nest17x7
  | .ofNat 8 => exact nest17x8
  | .ofNat 9 => exact nest17x9
  | .ofNat 10 => exact nest17x10
  | .ofNat 11 => exact nest17x11
  | .ofNat 12 => exact nest17x12
  | .ofNat 13 => exact nest17x13
  | .ofNat 14 => exact nest17x14
  | .ofNat 15 => exact nest17x15
  | .ofNat 16 => exact nest17x16
  | .ofNat 17 => exact nest17x17
  | .ofNat (m + 18) => exact nest17big m
  | .negSucc m => exact nest17neg m
theorem nest18x0 : law2 d4 [.int .i64 (.ofNat 18), .int .i64 (.ofNat 0)] = true := by kernel_rfl
theorem nest18x1 : law2 d4 [.int .i64 (.ofNat 18), .int .i64 (.ofNat 1)] = true := by kernel_rfl
theorem nest18x2 : law2 d4 [.int .i64 (.ofNat 18), .int .i64 (.ofNat 2)] = true := by kernel_rfl
theorem nest18x3 : law2 d4 [.int .i64 (.ofNat 18), .int .i64 (.ofNat 3)] = true := by kernel_rfl
theorem nest18x4 : law2 d4 [.int .i64 (.ofNat 18), .int .i64 (.ofNat 4)] = true := by kernel_rfl
theorem nest18x5 : law2 d4 [.int .i64 (.ofNat 18), .int .i64 (.ofNat 5)] = true := by kernel_rfl
theorem nest18x6 : law2 d4 [.int .i64 (.ofNat 18), .int .i64 (.ofNat 6)] = true := by kernel_rfl
theorem nest18x7 : law2 d4 [.int .i64 (.ofNat 18), .int .i64 (.ofNat 7)] = true := by kernel_rfl
theorem nest18x8 : law2 d4 [.int .i64 (.ofNat 18), .int .i64 (.ofNat 8)] = true := by kernel_rfl
theorem nest18x9 : law2 d4 [.int .i64 (.ofNat 18), .int .i64 (.ofNat 9)] = true := by kernel_rfl
theorem nest18x10 : law2 d4 [.int .i64 (.ofNat 18), .int .i64 (.ofNat 10)] = true := by kernel_rfl
theorem nest18x11 : law2 d4 [.int .i64 (.ofNat 18), .int .i64 (.ofNat 11)] = true := by kernel_rfl
theorem nest18x12 : law2 d4 [.int .i64 (.ofNat 18), .int .i64 (.ofNat 12)] = true := by kernel_rfl
theorem nest18x13 : law2 d4 [.int .i64 (.ofNat 18), .int .i64 (.ofNat 13)] = true := by kernel_rfl
theorem nest18x14 : law2 d4 [.int .i64 (.ofNat 18), .int .i64 (.ofNat 14)] = true := by kernel_rfl
theorem nest18x15 : law2 d4 [.int .i64 (.ofNat 18), .int .i64 (.ofNat 15)] = true := by kernel_rfl
theorem nest18x16 : law2 d4 [.int .i64 (.ofNat 18), .int .i64 (.ofNat 16)] = true := by kernel_rfl
theorem nest18x17 : law2 d4 [.int .i64 (.ofNat 18), .int .i64 (.ofNat 17)] = true := by kernel_rfl
theorem nest18x18 : law2 d4 [.int .i64 (.ofNat 18), .int .i64 (.ofNat 18)] = true := by kernel_rfl
theorem nest18big (m : Nat) : law2 d4 [.int .i64 (.ofNat 18), .int .i64 (.ofNat (m + 19))] = true := by kernel_rfl
theorem nest18neg (m : Nat) : law2 d4 [.int .i64 (.ofNat 18), .int .i64 (.negSucc m)] = true := by kernel_rfl
theorem nest18 (b : Int) : law2 d4 [.int .i64 (.ofNat 18), .int .i64 b] = true := by
  match b with
  | .ofNat 0 => exact nest18x0
  | .ofNat 1 => exact nest18x1
  | .ofNat 2 => exact nest18x2
  | .ofNat 3 => exact nest18x3
  | .ofNat 4 => exact nest18x4
  | .ofNat 5 => exact nest18x5
  | .ofNat 6 => exact nest18x6
  | .ofNat 7 => exact nest18x7
  | .ofNat 8 => exact nest18x8
  | .ofNat 9 => exact nest18x9
  | .ofNat 10 => exact nest18x10
  | .ofNat 11 => exact nest18x11
  | .ofNat 12 => exact nest18x12
  | .ofNat 13 => exact nest18x13
  | .ofNat 14 => exact nest18x14
  | .ofNat 15 => exact nest18x15
  | .ofNat 16 => exact nest18x16
  | .ofNat 17 => exact nest18x17
  | .ofNat 18 => exact nest18x18
  | .ofNat (m + 19) => exact nest18big m
  | .negSucc m => exact nest18neg m
theorem nest19x0 : law2 d4 [.int .i64 (.ofNat 19), .int .i64 (.ofNat 0)] = true := by kernel_rfl
theorem nest19x1 : law2 d4 [.int .i64 (.ofNat 19), .int .i64 (.ofNat 1)] = true := by kernel_rfl
theorem nest19x2 : law2 d4 [.int .i64 (.ofNat 19), .int .i64 (.ofNat 2)] = true := by kernel_rfl
theorem nest19x3 : law2 d4 [.int .i64 (.ofNat 19), .int .i64 (.ofNat 3)] = true := by kernel_rfl
theorem nest19x4 : law2 d4 [.int .i64 (.ofNat 19), .int .i64 (.ofNat 4)] = true := by kernel_rfl
theorem nest19x5 : law2 d4 [.int .i64 (.ofNat 19), .int .i64 (.ofNat 5)] = true := by kernel_rfl
theorem nest19x6 : law2 d4 [.int .i64 (.ofNat 19), .int .i64 (.ofNat 6)] = true := by kernel_rfl
theorem nest19x7 : law2 d4 [.int .i64 (.ofNat 19), .int .i64 (.ofNat 7)] = true := by kernel_rfl
theorem nest19x8 : law2 d4 [.int .i64 (.ofNat 19), .int .i64 (.ofNat 8)] = true := by kernel_rfl
theorem nest19x9 : law2 d4 [.int .i64 (.ofNat 19), .int .i64 (.ofNat 9)] = true := by kernel_rfl
theorem nest19x10 : law2 d4 [.int .i64 (.ofNat 19), .int .i64 (.ofNat 10)] = true := by kernel_rfl
theorem nest19x11 : law2 d4 [.int .i64 (.ofNat 19), .int .i64 (.ofNat 11)] = true := by kernel_rfl
theorem nest19x12 : law2 d4 [.int .i64 (.ofNat 19), .int .i64 (.ofNat 12)] = true := by kernel_rfl
theorem nest19x13 : law2 d4 [.int .i64 (.ofNat 19), .int .i64 (.ofNat 13)] = true := by kernel_rfl
theorem nest19x14 : law2 d4 [.int .i64 (.ofNat 19), .int .i64 (.ofNat 14)] = true := by kernel_rfl
theorem nest19x15 : law2 d4 [.int .i64 (.ofNat 19), .int .i64 (.ofNat 15)] = true := by kernel_rfl
theorem nest19x16 : law2 d4 [.int .i64 (.ofNat 19), .int .i64 (.ofNat 16)] = true := by kernel_rfl
theorem nest19x17 : law2 d4 [.int .i64 (.ofNat 19), .int .i64 (.ofNat 17)] = true := by kernel_rfl
theorem nest19x18 : law2 d4 [.int .i64 (.ofNat 19), .int .i64 (.ofNat 18)] = true := by kernel_rfl
theorem nest19x19 : law2 d4 [.int .i64 (.ofNat 19), .int .i64 (.ofNat 19)] = true := by kernel_rfl
theorem nest19big (m : Nat) : law2 d4 [.int .i64 (.ofNat 19), .int .i64 (.ofNat (m + 20))] = true := by kernel_rfl
theorem nest19neg (m : Nat) : law2 d4 [.int .i64 (.ofNat 19), .int .i64 (.negSucc m)] = true := by kernel_rfl
theorem nest19 (b : Int) : law2 d4 [.int .i64 (.ofNat 19), .int .i64 b] = true := by
  match b with
  | .ofNat 0 => exact nest19x0
  | .ofNat 1 => exact nest19x1
  | .ofNat 2 => exact nest19x2
  | .ofNat 3 => exact nest19x3
  | .ofNat 4 => exact nest19x4
  | .ofNat 5 => exact nest19x5
  | .ofNat 6 => exact nest19x6
  | .ofNat 7 => exact nest19x7
  | .ofNat 8 => exact nest19x8
  | .ofNat 9 => exact nest19x9
  | .ofNat 10 => exact nest19x10
  | .ofNat 11 => exact nest19x11
  | .ofNat 12 => exact nest19x12
  | .ofNat 13 => exact nest19x13
  | .ofNat 14 => exact nest19x14
  | .ofNat 15 => exact nest19x15
  | .ofNat 16 => exact nest19x16
  | .ofNat 17 => exact nest19x17
  | .ofNat 18 => exact nest19x18
  | .ofNat 19 => exact nest19x19
  | .ofNat (m + 20) => exact nest19big m
  | .negSucc m => exact nest19neg m
theorem nest20x0 : law2 d4 [.int .i64 (.ofNat 20), .int .i64 (.ofNat 0)] = true := by kernel_rfl
theorem nest20x1 : law2 d4 [.int .i64 (.ofNat 20), .int .i64 (.ofNat 1)] = true := by kernel_rfl
theorem nest20x2 : law2 d4 [.int .i64 (.ofNat 20), .int .i64 (.ofNat 2)] = true := by kernel_rfl
theorem nest20x3 : law2 d4 [.int .i64 (.ofNat 20), .int .i64 (.ofNat 3)] = true := by kernel_rfl
theorem nest20x4 : law2 d4 [.int .i64 (.ofNat 20), .int .i64 (.ofNat 4)] = true := by kernel_rfl
theorem nest20x5 : law2 d4 [.int .i64 (.ofNat 20), .int .i64 (.ofNat 5)] = true := by kernel_rfl
theorem nest20x6 : law2 d4 [.int .i64 (.ofNat 20), .int .i64 (.ofNat 6)] = true := by kernel_rfl
theorem nest20x7 : law2 d4 [.int .i64 (.ofNat 20), .int .i64 (.ofNat 7)] = true := by kernel_rfl
theorem nest20x8 : law2 d4 [.int .i64 (.ofNat 20), .int .i64 (.ofNat 8)] = true := by kernel_rfl
theorem nest20x9 : law2 d4 [.int .i64 (.ofNat 20), .int .i64 (.ofNat 9)] = true := by kernel_rfl
theorem nest20x10 : law2 d4 [.int .i64 (.ofNat 20), .int .i64 (.ofNat 10)] = true := by kernel_rfl
theorem nest20x11 : law2 d4 [.int .i64 (.ofNat 20), .int .i64 (.ofNat 11)] = true := by kernel_rfl
theorem nest20x12 : law2 d4 [.int .i64 (.ofNat 20), .int .i64 (.ofNat 12)] = true := by kernel_rfl
theorem nest20x13 : law2 d4 [.int .i64 (.ofNat 20), .int .i64 (.ofNat 13)] = true := by kernel_rfl
theorem nest20x14 : law2 d4 [.int .i64 (.ofNat 20), .int .i64 (.ofNat 14)] = true := by kernel_rfl
theorem nest20x15 : law2 d4 [.int .i64 (.ofNat 20), .int .i64 (.ofNat 15)] = true := by kernel_rfl
theorem nest20x16 : law2 d4 [.int .i64 (.ofNat 20), .int .i64 (.ofNat 16)] = true := by kernel_rfl
theorem nest20x17 : law2 d4 [.int .i64 (.ofNat 20), .int .i64 (.ofNat 17)] = true := by kernel_rfl
theorem nest20x18 : law2 d4 [.int .i64 (.ofNat 20), .int .i64 (.ofNat 18)] = true := by kernel_rfl
theorem nest20x19 : law2 d4 [.int .i64 (.ofNat 20), .int .i64 (.ofNat 19)] = true := by kernel_rfl
theorem nest20x20 : law2 d4 [.int .i64 (.ofNat 20), .int .i64 (.ofNat 20)] = true := by kernel_rfl
theorem nest20big (m : Nat) : law2 d4 [.int .i64 (.ofNat 20), .int .i64 (.ofNat (m + 21))] = true := by kernel_rfl
theorem nest20neg (m : Nat) : law2 d4 [.int .i64 (.ofNat 20), .int .i64 (.negSucc m)] = true := by kernel_rfl
theorem nest20 (b : Int) : law2 d4 [.int .i64 (.ofNat 20), .int .i64 b] = true := by
  match b with
  | .ofNat 0 => exact nest20x0
  | .ofNat 1 => exact nest20x1
  | .ofNat 2 => exact nest20x2
  | .ofNat 3 => exact nest20x3
  | .ofNat 4 => exact nest20x4
  | .ofNat 5 => exact nest20x5
  | .ofNat 6 => exact nest20x6
  | .ofNat 7 => exact nest20x7
  | .ofNat 8 => exact nest20x8
  | .ofNat 9 => exact nest20x9
  | .ofNat 10 => exact nest20x10
  | .ofNat 11 => exact nest20x11
  | .ofNat 12 => exact nest20x12
  | .ofNat 13 => exact nest20x13
  | .ofNat 14 => exact nest20x14
  | .ofNat 15 => exact nest20x15
  | .ofNat 16 => exact nest20x16
  | .ofNat 17 => exact nest20x17
  | .ofNat 18 => exact nest20x18
  | .ofNat 19 => exact nest20x19
  | .ofNat 20 => exact nest20x20
  | .ofNat (m + 21) => exact nest20big m
  | .negSucc m => exact nest20neg m
theorem nestneg (m : Nat) (b : Int) : law2 d4 [.int .i64 (.negSucc m), .int .i64 b] = true := by kernel_rfl
theorem nest0 (b : Int) : law2 d4 [.int .i64 (.ofNat 0), .int .i64 b] = true := by kernel_rfl
theorem nestbig (m : Nat) (b : Int) : law2 d4 [.int .i64 (.ofNat (m + 21)), .int .i64 b] = true := by kernel_rfl
theorem nests (a b : Int) : law2 d4 [.int .i64 a, .int .i64 b] = true := by
  match a with
  | .ofNat 0 => exact nest0 b
  | .ofNat 1 => exact nest1 b
  | .ofNat 2 => exact nest2 b
  | .ofNat 3 => exact nest3 b
  | .ofNat 4 => exact nest4 b
  | .ofNat 5 => exact nest5 b
  | .ofNat 6 => exact nest6 b
  | .ofNat 7 => exact nest7 b
  | .ofNat 8 => exact nest8 b
  | .ofNat 9 => exact nest9 b
  | .ofNat 10 => exact nest10 b
  | .ofNat 11 => exact nest11 b
  | .ofNat 12 => exact nest12 b
  | .ofNat 13 => exact nest13 b
  | .ofNat 14 => exact nest14 b
  | .ofNat 15 => exact nest15 b
  | .ofNat 16 => exact nest16 b
  | .ofNat 17 => exact nest17 b
  | .ofNat 18 => exact nest18 b
  | .ofNat 19 => exact nest19 b
  | .ofNat 20 => exact nest20 b
  | .ofNat (m + 21) => exact nestbig m b
  | .negSucc m => exact nestneg m b
end Dt
