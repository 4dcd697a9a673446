/- A part of the abstract machine and of the proof that the program does what it reckons; no conditions. -/
import Derived.Test.YtmndopeencbamaaDo
import Derived.Test.YtmndopeencbamaaEb
namespace Dt
open Go
def look : List (Nat × DF) → Nat → Option DF
  | [], _ => none
  | p :: l, f => match Nat.beq p.1 f with | true => some p.2 | false => look l f
def table : List (Nat × DF) := [(3, d3), (4, d4), (5, d5), (6, d6), (7, d7), (8, d8), (9, d9), (10, d10), (11, d11), (12, d12), (13, d13), (14, d14), (15, d15), (16, d16), (17, d17), (18, d18), (19, d19), (20, d20), (21, d21), (22, d22), (23, d23), (24, d24), (25, d25), (26, d26), (27, d27), (28, d28), (29, d29), (30, d30), (31, d31), (32, d32), (33, d33), (34, d34), (35, d35), (36, d36), (37, d37), (38, d38), (39, d39), (40, d40), (41, d41), (42, d42), (43, d43)]
theorem look_mem : ∀ {l : List (Nat × DF)} {f : Nat} {F : DF}, look l f = some F → (f, F) ∈ l
  | [], _, _, h => by simp [look] at h
  | p :: l, f, F, h => by
    simp only [look] at h
    split at h
    · rename_i hb
      have := Nat.eq_of_beq_eq_true hb
      simp at h
      subst this
      subst h
      simp
    · exact List.mem_cons_of_mem _ (look_mem h)
def AllOk (l : List (Nat × DF)) : Prop := ∀ p ∈ l, FunOk Go.Proofs.Try.prog p.1 p.2
theorem AllOk.nil : AllOk [] := fun p h => by cases h
theorem AllOk.cons {f : Nat} {F : DF} {l : List (Nat × DF)} (h : FunOk Go.Proofs.Try.prog f F) (t : AllOk l) : AllOk ((f, F) :: l) := fun p hp => by
  rcases List.mem_cons.1 hp with rfl | hp
  · exact h
  · exact t p hp
theorem table_ok : AllOk table := .cons k3 (.cons k4 (.cons k5 (.cons k6 (.cons k7 (.cons k8 (.cons k9 (.cons k10 (.cons k11 (.cons k12 (.cons k13 (.cons k14 (.cons k15 (.cons k16 (.cons k17 (.cons k18 (.cons k19 (.cons k20 (.cons k21 (.cons k22 (.cons k23 (.cons k24 (.cons k25 (.cons k26 (.cons k27 (.cons k28 (.cons k29 (.cons k30 (.cons k31 (.cons k32 (.cons k33 (.cons k34 (.cons k35 (.cons k36 (.cons k37 (.cons k38 (.cons k39 (.cons k40 (.cons k41 (.cons k42 (.cons k43 (.nil)))))))))))))))))))))))))))))))))))))))))
theorem funs_ok : ∀ f F, look table f = some F → FunOk Go.Proofs.Try.prog f F := fun f F h => table_ok (f, F) (look_mem h)

def yes (x : AVal) (_ : Heap) : Bool := match x with | .bool b => b | _ => false
theorem yes_true {x : AVal} {H : Heap} (h : yes x H = true) : x = .bool true := by
  cases x <;> simp [yes] at h
  rw [h]

theorem alive_true : evF AB (look table) 60 6 [] ⟨0, .nil⟩ yes = true := by kernel_rfl
def known (f : Nat) (args : List AVal) : Option AVal := match Nat.beq f 6, args with
  | true, [] => some (.bool true)
  | _, _ => none
theorem known_ok (f : Nat) (args : List AVal) (x : AVal) (h : known f args = some x) : Knows Go.Proofs.Try.prog f args x := by
  unfold known at h
  split at h
  · rename_i hb
    have := Nat.eq_of_beq_eq_true hb
    subst this
    simp at h
    subst h
    intro w ρ us hs
    cases hs
    obtain ⟨h1, h2⟩ := evF_sound (A := AB) follows funs_ok 60 6 [] ⟨0, .nil⟩ yes Env.none w [] .nil (HRel.nobody w) alive_true
    refine ⟨h1, Calls.mono h2 fun e w' he => ?_⟩
    obtain ⟨v, g1, x, H', ρ', g2, g3, g4⟩ := he
    rw [yes_true g2] at g3
    cases g3
    exact ⟨_, g1, .bool true, ρ', H', g4⟩
  · cases h

/-- What a law's function does, with 'alive' known. -/
def law (F : DF) (args : List AVal) : Bool := evG AB (withKnown known (evF AB (look table) 60)) F args ⟨0, .nil⟩ yes
theorem law_sound {f : Nat} {F : DF} (hf : FunOk Go.Proofs.Try.prog f F) {args : List AVal} {us : List Value} (hs : VRels Env.none args us) (h : law F args = true) (w : World) :
    Calls Go.Proofs.Try.prog f us.toArray w fun e w' => e = .returned (.bool true) ∧ Go.RowKit.Below w.heap.size w w' := by
  obtain ⟨_, h2⟩ := evG_sound (A := AB) follows (withKnown_sound known_ok (evF_sound follows funs_ok 60)) hf args ⟨0, .nil⟩ yes Env.none w us hs (HRel.nobody w) h
  refine Calls.mono h2 fun e w' he => ?_
  obtain ⟨v, g1, x, H', ρ', g2, g3, g4⟩ := he
  rw [yes_true g2] at g3
  cases g3
  exact ⟨g1, g4.os, g4.tape, g4.output, g4.size, fun k hk => g4.frame k hk fun b R e => (by cases e)⟩
end Dt
