/- A part of the abstract machine and of the proof that the program does what it reckons; no conditions. -/
import Derived.Test.YtpljolocgeicfaaDoorM23
import Derived.WalkKit
namespace Dt
open Go
set_option linter.all false
set_option maxRecDepth 100000
/-- A law's function that answers true, whatever the tables' world. -/
theorem law_walk {f : Nat} {fn : Func} {c : Code} (h1 : Go.Proofs.Tryd.prog.funcs[f]? = some fn) (h2 : fn.body = some c) (h3 : fn.name ≠ "runtime.NumGoroutine") {N : Nat} {args : List AVal} {us : List Value} (hs : VRels Env.none args us)
    (h : evF AP TT N f args ⟨0, .nil, GT⟩ (fun x _ => x = .bool true)) {w : World} (hw : GRel w GT) :
    Calls Go.Proofs.Tryd.prog f us.toArray w fun e w' => e = .returned (.bool true) ∧ Go.RowKit.Below w.heap.size w w' := by
  have ho := evF_sound (A := AP) TT_ok N f args ⟨0, .nil, GT⟩ (fun x _ => x = .bool true) Env.none w us hs (HRel.nobody w hw) h
  unfold Out at ho
  rw [run_callFunc_body h1 h2 h3] at ho
  refine Calls.mono ho fun e w' he => ?_
  obtain ⟨v, g1, x, H', ρ', g2, g3, g4⟩ := he
  obtain rfl : x = .bool true := g2
  cases g3
  exact ⟨g1, g4.os, g4.tape, g4.output, g4.size, fun k hk => g4.frame k hk fun b R e => (by cases e)⟩
theorem str_rel (a : ByteArray) : VRel Env.none (.str a.size (codeOf a.data.toList)) (.string a) := .str a
/-- LexTokens. -/
theorem walk3 (a0 a1 : ByteArray) (w : World) (hw : GRel w GT) : Calls Go.Proofs.Tryd.prog 3 #[.string a0, .string a1] w fun e w' => e = .returned (.bool true) ∧ Go.RowKit.Below w.heap.size w w' :=
  law_walk (fn := Go.Proofs.Tryd.f3) (by kernel_rfl) rfl (ne_of_beq_false (by kernel_rfl)) (.cons (str_rel a0) (.cons (str_rel a1) .nil)) (N := 0 + 11)
    (s3 (s := ⟨a0.size, codeOf a0.data.toList⟩) (o := ⟨a1.size, codeOf a1.data.toList⟩) rfl (fun _ _ => rfl)) hw
end Dt
