/- A part of the abstract machine and of the proof that the program does what it reckons; no conditions. -/
import Derived.Test.YtoifgfkgjbddcaaGreatDoorWa1
import Derived.Test.YtoifgfkgjbddcaaGreatDoorWa2
import Derived.Test.YtoifgfkgjbddcaaGreatDoorZ4o
set_option linter.all false
namespace Dt
open Go
set_option linter.all false
set_option maxRecDepth 100000
theorem below3 : Below1 3 26 := bs (bs (bs (bs (bs (bs (bs (bs (bs (bs (bs (bs (bs (bs (bs (bs (bs (bs (bs (bs (bs (bs (bs (bs (bs (bs b0 wa0) wa1) wa2) wa3) wa4) wa5) wa6) wa7) wa8) wa9) wa10) wa11) wa12) wa13) wa14) wa15) wa16) wa17) wa18) wa19) wa20) wa21) wa22) wa23) wa24) wa25
theorem all3 (a : Int) : said1 3 a = true := by
  cases a with
  | negSucc m => exact out3a m
  | ofNat m =>
    by_cases h : m < 26
    · exact run1_at (below3 m h)
    · obtain ⟨k, rfl⟩ : ∃ k, m = k + 26 := ⟨m - 26, by omega⟩
      exact out3b k
theorem walk3 (a0 : Int) (w : World) (hw : GRel w GE) : Calls Go.Proofs.Tryz.prog 3 #[.int .i64 a0] w fun e w' => e = .returned (.bool true) ∧ Go.RowKit.Below w.heap.size w w' :=
  law_walk1 (fn := Go.Proofs.Tryz.f3) (by kernel_rfl) rfl (ne_of_beq_false (by kernel_rfl)) (all3 a0) w hw
end Dt
