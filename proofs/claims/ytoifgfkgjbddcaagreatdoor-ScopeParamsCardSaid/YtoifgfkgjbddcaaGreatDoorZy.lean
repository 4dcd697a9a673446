/- A part of the abstract machine and of the proof that the program does what it reckons; no conditions. -/
import Derived.Test.YtoifgfkgjbddcaaGreatDoorZf
import Derived.Test.YtoifgfkgjbddcaaGreatDoorDZ
set_option linter.all false
namespace Dt
open Go
set_option linter.all false
set_option maxRecDepth 100000
noncomputable def lookQ (t : FT) : Nat → Option DF := FT.rec (fun _ => none) (fun n F _ _ ihl ihr k => Bool.rec (Bool.rec (ihr k) (ihl k) (Nat.ble k n)) (some F) (Nat.beq k n)) t
theorem lookQ_eq : ∀ (t : FT) (k : Nat), lookQ t k = t.look k
  | .leaf, _ => rfl
  | .node n F l r, k => by
    show (Bool.rec (Bool.rec (lookQ r k) (lookQ l k) (Nat.ble k n)) (some F) (Nat.beq k n) : Option DF) = _
    rw [lookQ_eq l k, lookQ_eq r k]
    simp only [FT.look]
    cases Nat.beq k n with
    | true => rfl
    | false => cases Nat.ble k n <;> rfl
noncomputable def T1q : Prog := ⟨lookQ table, known1⟩
theorem T1q_eq : T1q = T1 := by
  unfold T1q T1
  congr 1
  funext k
  exact lookQ_eq table k
theorem fast {f : Nat} {args : List AVal} (h : Q.Z.evF T1q 200 f args ⟨0, .nil, []⟩ yes = true) : evF AB T1 200 f args ⟨0, .nil, []⟩ yes = true := by
  rw [← Q.Z.evF_eq, ← T1q_eq]
  exact h
end Dt
