/- A part of the abstract machine and of the proof that the program does what it reckons; no conditions. -/
import Derived.Test.YtoifgfkgjbddcaaGreatDoorZe
set_option linter.all false
namespace Dt
open Go
set_option linter.all false
set_option maxRecDepth 100000
theorem no_tables (w : World) : GRel w [] := fun g row h => by simp at h
theorem alive_true : evF AB T0 60 8 [] ⟨0, .nil, []⟩ yes = true := by kernel_rfl
theorem alive_knows (gl : List (List AVal)) : Knows Go.Proofs.Tryz.prog gl 8 [] (.val (.bool true)) := by
  intro w ρ us hg hs
  cases hs
  refine Out.mono ?_ ((evF_sound (A := AB) T0_ok 60).1 8 [] ⟨0, .nil, []⟩ yes Env.none w [] .nil (HRel.nobody w (no_tables w)) alive_true)
  intro v w' hv
  obtain ⟨x, H', ρ', g2, g3, g4⟩ := hv
  rw [yes_true g2] at g3
  cases g3
  exact ⟨.bool true, g4.quiet⟩
/-- Known ahead: those, and that the example holds. -/
def known1 (gl : List (List AVal)) (f : Nat) (args : List AVal) : Option KA := match Nat.beq f 8 with
  | true => match args with
    | [] => some (.val (.bool true))
    | _ => none
  | false => known0 gl f args
theorem known1_ok (gl : List (List AVal)) (f : Nat) (args : List AVal) (a : KA) (h : known1 gl f args = some a) : Knows Go.Proofs.Tryz.prog gl f args a := by
  unfold known1 at h
  split at h
  · rename_i hb
    have := Nat.eq_of_beq_eq_true hb
    subst this
    split at h
    · simp only [Option.some.injEq] at h
      subst h
      exact alive_knows gl
    · cases h
  · exact known0_ok gl f args a h
def T1 : Prog := ⟨table.look, known1⟩
theorem T1_ok : ProgOk Go.Proofs.Tryz.prog T1 := ⟨follows, fun f F h hr => (FT.look_ok table_ok h).1 hr, fun f F k h hr => (FT.look_ok table_ok h).2 k hr, known1_ok⟩
/-- A law's function that answers true. -/
theorem law_walk {f : Nat} {fn : Func} {c : Code} (h1 : Go.Proofs.Tryz.prog.funcs[f]? = some fn) (h2 : fn.body = some c) (h3 : fn.name ≠ "runtime.NumGoroutine") {N : Nat} {args : List AVal} {us : List Value} (hs : VRels Env.none args us)
    (h : evF AB T1 N f args ⟨0, .nil, []⟩ yes = true) (w : World) :
    Calls Go.Proofs.Tryz.prog f us.toArray w fun e w' => e = .returned (.bool true) ∧ Go.RowKit.Below w.heap.size w w' := by
  have ho := (evF_sound (A := AB) T1_ok N).1 f args ⟨0, .nil, []⟩ yes Env.none w us hs (HRel.nobody w (no_tables w)) h
  unfold Out at ho
  rw [run_callFunc_body h1 h2 h3] at ho
  refine Calls.mono ho fun e w' he => ?_
  obtain ⟨v, g1, x, H', ρ', g2, g3, g4⟩ := he
  rw [yes_true g2] at g3
  cases g3
  exact ⟨g1, g4.os, g4.tape, g4.output, g4.size, fun k hk => g4.frame k hk fun b R e => (by cases e)⟩
end Dt
