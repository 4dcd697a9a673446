/- A part of the abstract machine and of the proof that the program does what it reckons; no conditions. -/
import Derived.Test.YtoifgfkgjbddcaaGreatDoorZw
set_option linter.all false
namespace Dt
open Go
set_option linter.all false
set_option maxRecDepth 100000
def DC.fst : DC → DC | .seq a _ => a | c => c
def DC.snd : DC → DC | .seq _ b => b | c => c
/-- The head of F4's code, up to where a number is taken off; that region; the rest. -/
noncomputable def t4 (k : Nat) : DC := Nat.rec d4.code (fun _ c => c.snd) k
noncomputable def head4 : DC := .seq (t4 0).fst (.seq (t4 1).fst (.seq (t4 2).fst (.seq (t4 3).fst (.seq (t4 4).fst (.seq (t4 5).fst (t4 6).fst)))))
def AX : Alg (List AVal × Heap) := ⟨([], H0), fun a _ => a, fun _ => False, id, fun _ _ h => h.elim, ([], H0)⟩
noncomputable def pre4 (x : AVal) : List AVal × Heap := evC AX (fun _ _ H K => K (.bool true) H) head4 (initV [x] d4.init) [] H0 fun _ vs _ H => (vs, H)
noncomputable def call4 : Nat → List AVal → Heap → (AVal → Heap → Bool) → Bool := evF AB T2 199
noncomputable def end4 (x : DX) (vs _ts : List AVal) (H : Heap) : Bool := match x with
  | .exit _ => AB.fail
  | _ => match lget vs d4.hid with
    | .tup ds => runD AB (evD AB T2.funs call4) ds H fun H => evE AB d4 vs H yes
    | _ => AB.fail
theorem start4 (m : Nat) : evF AB T2 200 4 [.int .i64 (.ofNat (m + 33))] H0 yes = evC AB call4 (.seq (t4 7).fst (t4 8)) (pre4 (.int .i64 (.ofNat (m + 33)))).1 [] (pre4 (.int .i64 (.ofNat (m + 33)))).2 end4 := by kernel_rfl
theorem rest4 (m : Nat) (ts : List AVal) : evC AB call4 (t4 8) (lset (pre4 (.int .i64 (.ofNat (m + 33)))).1 7 (.int .i64 (.ofNat (m + 28)))) ts (pre4 (.int .i64 (.ofNat (m + 33)))).2 end4 = true := by kernel_rfl
theorem sub4 {m : Nat} (hm : m + 33 ≤ 9223372036854775807) : binV .sub (.int .i64 (.ofNat (m + 33))) (.int .i64 (.ofNat 5)) = some (.int .i64 (.ofNat (m + 28))) := by
  have h1 : (Int.ofNat (m + 33) - Int.ofNat 5 : Int) = Int.ofNat (m + 28) := by
    show ((m + 33 : Nat) : Int) - ((5 : Nat) : Int) = ((m + 28 : Nat) : Int)
    omega
  have h2 : Nat.ble (m + 28) 9223372036854775807 = true := Nat.ble_eq_true_of_le (by omega)
  simp only [binV, isSh, decide_true, h1, wrapI, h2]
theorem big4 {m : Nat} (hm : m + 33 ≤ 9223372036854775807) : said1 4 (.ofNat (m + 33)) = true := by
  unfold said1
  rw [start4]
  have hreg : (t4 7).fst = .reg [⟨.tmp, .move (.v 0), none⟩, ⟨.tmp, .move (.v 4), none⟩, ⟨.tmp, .len false (.t 0), none⟩, ⟨.tmp, .bin .sub (.t 2) (.t 0), none⟩, ⟨.var 7, .move (.t 0), none⟩] := by kernel_rfl
  have f0 : lget (pre4 (.int .i64 (.ofNat (m + 33)))).1 0 = .int .i64 (.ofNat (m + 33)) := by kernel_rfl
  have f4 : lget (pre4 (.int .i64 (.ofNat (m + 33)))).1 4 = .slc 0 0 5 (some 5) 1 := by kernel_rfl
  have r := rest4 m
  rw [hreg]
  generalize (pre4 (.int .i64 (.ofNat (m + 33)))).1 = VS at f0 f4 r ⊢
  generalize (pre4 (.int .i64 (.ofNat (m + 33)))).2 = HH at r ⊢
  simp only [evC, evOps, evI, Opd.get, f0, f4]
  repeat rw [sink]
  simp only [lget, f4]
  repeat rw [sink]
  simp only [lget]
  rw [sub4 hm]
  simp only [fV_eq]
  rw [sink]
  rw [sink, fL_eq]
  exact r _
theorem out4a (m : Nat) : said1 4 (.negSucc m) = true := by kernel_rfl
theorem out3a (m : Nat) : said1 3 (.negSucc m) = true := by kernel_rfl
theorem out3b (m : Nat) : said1 3 (.ofNat (m + 26)) = true := by kernel_rfl
end Dt
