/- A part of the abstract machine and of the proof that the program does what it reckons; no conditions. -/
import Derived.Test.YtoifgfkgjbddcaaGreatDoorDo
import Derived.Test.YtoifgfkgjbddcaaGreatDoorZq
import Derived.Test.YtoifgfkgjbddcaaGreatDoorProg
import Derived.KernelRfl
set_option linter.all false
namespace Dt
open Go
set_option linter.all false
set_option maxRecDepth 100000
/-- The ranges over functions that a code holds. -/
def rngAll : Code → List (Array Nat × Code × Code)
  | .seq a b => rngAll a ++ rngAll b
  | .cond _ a b => rngAll a ++ rngAll b
  | .block _ c => rngAll c
  | .loop c => rngAll c
  | .rangeFunc _ ps asg body => [(ps, asg, body)]
  | _ => []
def none? {α : Type} : List α → Bool
  | [] => true
  | _ => false
def one? {α : Type} : List α → Option α
  | [a] => some a
  | _ => none
/-- The record of the one range over a function that this program holds: F18's. -/
noncomputable def body18 : Code := match Go.Proofs.Tryz.f18.body with | some c => c | none => .skip
noncomputable def rec18 : Option LoopRec := (one? (rngAll body18)).map fun r => ⟨r.1, r.2.1, r.2.2, vm18, Go.Proofs.Tryz.f18.ntmps⟩
noncomputable instance : LoopTab := ⟨fun f => match Nat.beq f 1018 with | true => rec18 | false => none⟩
theorem tab_all {P : Program} {b g : Nat} {vm : List Nat} {N : Nat} (hg : ∃ fn c, P.funcs[g]? = some fn ∧ fn.body = some c ∧ fn.name ≠ "runtime.NumGoroutine") : ∀ c : Code, (∀ r ∈ rngAll c, LoopTab.tab b = some ⟨r.1, r.2.1, r.2.2, vm, N⟩) → TabOk P (some (b, g)) vm N c
  | .seq a b, h => ⟨tab_all hg a fun r hr => h r (List.mem_append_left _ hr), tab_all hg b fun r hr => h r (List.mem_append_right _ hr)⟩
  | .cond _ a b, h => ⟨tab_all hg a fun r hr => h r (List.mem_append_left _ hr), tab_all hg b fun r hr => h r (List.mem_append_right _ hr)⟩
  | .block _ c, h => tab_all hg c h
  | .loop c, h => tab_all hg c h
  | .rangeFunc _ ps asg body, h => ⟨b, g, rfl, h (ps, asg, body) (by simp [rngAll]), hg⟩
  | .skip, _ => trivial
  | .region _ _ _, _ => trivial
  | .exit _, _ => trivial
  | .label _, _ => trivial
  | .ret, _ => trivial
  | .goto _, _ => trivial
  | .scope _, _ => trivial
  | .refuse _, _ => trivial
theorem tab_none {P : Program} {bf : Option (Nat × Nat)} {vm : List Nat} {N : Nat} : ∀ c : Code, none? (rngAll c) = true → TabOk P bf vm N c
  | .seq a b, h => by
    have : rngAll a = [] ∧ rngAll b = [] := by
      simp only [rngAll] at h
      cases ha : rngAll a with
      | nil => cases hb : rngAll b with
        | nil => exact ⟨rfl, rfl⟩
        | cons _ _ => rw [ha, hb] at h; cases h
      | cons _ _ => rw [ha] at h; cases h
    exact ⟨tab_none a (by rw [this.1]; rfl), tab_none b (by rw [this.2]; rfl)⟩
  | .cond _ a b, h => by
    have : rngAll a = [] ∧ rngAll b = [] := by
      simp only [rngAll] at h
      cases ha : rngAll a with
      | nil => cases hb : rngAll b with
        | nil => exact ⟨rfl, rfl⟩
        | cons _ _ => rw [ha, hb] at h; cases h
      | cons _ _ => rw [ha] at h; cases h
    exact ⟨tab_none a (by rw [this.1]; rfl), tab_none b (by rw [this.2]; rfl)⟩
  | .block _ c, h => tab_none c h
  | .loop c, h => tab_none c h
  | .rangeFunc _ _ _ _, h => by cases h
  | .skip, _ => trivial
  | .region _ _ _, _ => trivial
  | .exit _, _ => trivial
  | .label _, _ => trivial
  | .ret, _ => trivial
  | .goto _, _ => trivial
  | .scope _, _ => trivial
  | .refuse _, _ => trivial
def nodupB : List Nat → Bool
  | [] => true
  | x :: l => !l.contains x && nodupB l
theorem nodup_of : ∀ {l : List Nat}, nodupB l = true → l.Nodup
  | [], _ => List.nodup_nil
  | x :: l, h => by
    simp only [nodupB, Bool.and_eq_true, Bool.not_eq_true', List.contains_eq_mem, decide_eq_false_iff_not] at h
    exact List.nodup_cons.2 ⟨h.1, nodup_of h.2⟩
/-- A function of the program and what the machine has for it. -/
theorem fun_ok {n : Nat} {fn : Func} {vm : List Nat} {F : DF} {hid kl : Bool} (h1 : Go.Proofs.Tryz.prog.funcs[n]? = some fn) (h2 : (fn.name == "runtime.NumGoroutine") = false) (h3 : nodupB vm = true) (h4 : cFunc Go.Proofs.Tryz.prog none hid kl vm fn = some F) (h5 : (match fn.body with | some c => none? (rngAll c) | none => false) = true) (h6 : FlagsOk F.code) : FunOk Go.Proofs.Tryz.prog n F := by
  cases hb : fn.body with
  | none => rw [hb] at h5; cases h5
  | some c =>
    rw [hb] at h5
    exact ⟨fn, c, vm, none, hid, kl, h1, hb, ne_of_beq_false h2, nodup_of h3, h4, tab_none c h5, h6⟩
def condsF : DC → List (DC × DC × List Nat × Opd × Nat)
  | .seq a b => condsF a ++ condsF b
  | .cond _ a b => condsF a ++ condsF b
  | .block _ c => condsF c
  | .loop c => condsF c
  | .condF x y us p off => [(x, y, us, p, off)]
  | _ => []
theorem flags_all : ∀ c : DC, (∀ t ∈ condsF c, noFlags t.1 = true ∧ noFlags t.2.1 = true ∧ PairOk t.1 t.2.1 t.2.2.1 t.2.2.2.1 t.2.2.2.2) → FlagsOk c
  | .seq a b, h => ⟨flags_all a fun t ht => h t (List.mem_append_left _ ht), flags_all b fun t ht => h t (List.mem_append_right _ ht)⟩
  | .cond _ a b, h => ⟨flags_all a fun t ht => h t (List.mem_append_left _ ht), flags_all b fun t ht => h t (List.mem_append_right _ ht)⟩
  | .block _ c, h => flags_all c h
  | .loop c, h => flags_all c h
  | .condF x y us p off, h => by
    obtain ⟨h1, h2, h3⟩ := h (x, y, us, p, off) (by simp [condsF])
    exact ⟨rfl, h1, flags_none _ h2, h3⟩
  | .skip, _ => trivial
  | .reg _, _ => trivial
  | .exit _, _ => trivial
  | .ret, _ => trivial
  | .die, _ => trivial
  | .rngF _ _ _ _, _ => trivial
theorem flags_one {c x y : DC} {us : List Nat} {p : Opd} {off : Nat} (h : condsF c = [(x, y, us, p, off)]) (h1 : noFlags x = true) (h2 : noFlags y = true) (h3 : PairOk x y us p off) : FlagsOk c :=
  flags_all c fun t ht => by
    rw [h] at ht
    simp only [List.mem_singleton] at ht
    subst ht
    exact ⟨h1, h2, h3⟩
theorem follows : Go.Proofs.Tryz.prog.follows .mixedOrders = true := by kernel_rfl
end Dt
