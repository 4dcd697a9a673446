/- The law's card holds: its function answers true at every input, and leaves its arguments as they were; the package variables that it lists are tied to the program's text by the given tie. -/
import Derived.Test.YtpljolocgeicfaaDoorM26
import Derived.Test.YtpljolocgeicfaaDoorCards
import Derived.Test.YtpljolocgeicfaaDoorTie
import Derived.SevenTiedAt
namespace Go.Proofs.YtpljolocgeicfaaDoor
open Go
set_option maxRecDepth 100000
/-- The card of LexTokens. -/
theorem lexTokensCard_holds : Rows.LexTokensCardSaid :=
  Claim7.holds_tied_plain_at .later [] [.data, .listed, .data, .pinned] true (true, "55eb34bfc4345c99ac3e2d9dd691eff1d7eb2f4abd3606badc82128506e34273") false
    lexTokens.proved (fun _ h => by cases h) (by kernel_rfl) (fun _ h => by cases h) lexTokens_row_tie rfl ⟨rfl, rfl⟩ (by kernel_rfl) rfl
    (fun f fn hf hfn => by
      obtain rfl : f = 3 := Option.some.inj ((show Tryd.prog.funcNamed "telamon/telamonlaw12.LexTokens" = some 3 by kernel_rfl).symm.trans hf) |>.symm
      obtain rfl : fn = Tryd.f3 := (Option.some.inj (Tryd.func3.symm.trans hfn)).symm
      exact ⟨by kernel_rfl, fun j t ht => by
        rw [Tryd.params3] at ht
        have h3 : t = 9 := by
          rcases j with _ | _ | j
          · simpa using ht.symm
          · simpa using ht.symm
          · simp at ht
        subst h3
        exact (show Tryd.prog.wantsStandIn 9 = false by kernel_rfl)⟩)
    (by kernel_rfl)
end Go.Proofs.YtpljolocgeicfaaDoor
