/- A part of the abstract machine and of the proof that the program does what it reckons; no conditions. -/
import Derived.Test.YtoifgfkgjbddcaaGreatDoorMa1
import Derived.Test.YtoifgfkgjbddcaaGreatDoorMa2
import Derived.Test.YtoifgfkgjbddcaaGreatDoorMa3
import Derived.Test.YtoifgfkgjbddcaaGreatDoorMa4
import Derived.Test.YtoifgfkgjbddcaaGreatDoorMa5
import Derived.Test.YtoifgfkgjbddcaaGreatDoorZ4o
set_option linter.all false
namespace Dt
open Go
set_option linter.all false
set_option maxRecDepth 100000
theorem below4 : Below1 4 33 := bs (bs (bs (bs (bs (bs (bs (bs (bs (bs (bs (bs (bs (bs (bs (bs (bs (bs (bs (bs (bs (bs (bs (bs (bs (bs (bs (bs (bs (bs (bs (bs (bs b0 ma0) ma1) ma2) ma3) ma4) ma5) ma6) ma7) ma8) ma9) ma10) ma11) ma12) ma13) ma14) ma15) ma16) ma17) ma18) ma19) ma20) ma21) ma22) ma23) ma24) ma25) ma26) ma27) ma28) ma29) ma30) ma31) ma32
theorem all4 (a : Int) (ha : a ≤ 9223372036854775807) : said1 4 a = true := by
  cases a with
  | negSucc m => exact out4a m
  | ofNat m =>
    by_cases h : m < 33
    · exact run1_at (below4 m h)
    · obtain ⟨k, rfl⟩ : ∃ k, m = k + 33 := ⟨m - 33, by omega⟩
      exact big4 (by
        have : ((k + 33 : Nat) : Int) ≤ 9223372036854775807 := ha
        omega)
theorem walk4 (a0 : Int) (h0 : (Lit.int .i64 a0).wf = true) (w : World) (hw : GRel w GE) : Calls Go.Proofs.Tryz.prog 4 #[.int .i64 a0] w fun e w' => e = .returned (.bool true) ∧ Go.RowKit.Below w.heap.size w w' :=
  law_walk1 (fn := Go.Proofs.Tryz.f4) (by kernel_rfl) rfl (ne_of_beq_false (by kernel_rfl)) (all4 a0 (by
    simp only [Lit.wf, Bool.and_eq_true, decide_eq_true_eq] at h0
    have : IntKind.i64.max = 9223372036854775807 := by decide
    omega)) w hw
end Dt
