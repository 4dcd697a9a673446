/- A part of the abstract machine and of the proof that the program does what it reckons; no conditions. -/
import Derived.Test.YtpljolocgeicfaaDoorM4
namespace Dt
open Go
set_option linter.all false
set_option maxRecDepth 100000
/-! ### Bits -/
theorem wU8 {n : Nat} (h : n < 256) : IntKind.u8.wrap (n : Int) = (n : Int) := by
  rw [IntKind.wrap_u8]; omega
theorem wI32 {n : Nat} (h : n < 2147483648) : IntKind.i32.wrap (n : Int) = (n : Int) := by
  rw [IntKind.wrap_i32]; omega
theorem and_u8 {a b : Nat} (ha : a < 256) (hb : b < 256) : binV .and (.int .u8 (a : Int)) (.int .u8 (b : Int)) = some (.int .u8 ((a &&& b : Nat) : Int)) := by
  have h : a &&& b < 256 := Nat.lt_of_le_of_lt Nat.and_le_left ha
  have e : bitI .and .u8 (a : Int) (b : Int) = some ((a &&& b : Nat) : Int) := by
    show some (IntKind.u8.wrap ((BitVec.ofInt 8 (a : Int) &&& BitVec.ofInt 8 (b : Int)).toNat : Int)) = _
    simp only [BitVec.ofInt_natCast, BitVec.toNat_and, BitVec.toNat_ofNat]
    rw [Nat.mod_eq_of_lt (show a < 2 ^ 8 from ha), Nat.mod_eq_of_lt (show b < 2 ^ 8 from hb), wU8 h]
  show (bitI .and .u8 (a : Int) (b : Int)).map (AVal.int .u8) = _
  rw [e]
  rfl
theorem or_i32 {a b : Nat} (ha : a < 2147483648) (hb : b < 2147483648) : binV .or (.int .i32 (a : Int)) (.int .i32 (b : Int)) = some (.int .i32 ((a ||| b : Nat) : Int)) := by
  have h : a ||| b < 2147483648 := Nat.or_lt_two_pow (n := 31) ha hb
  have e : bitI .or .i32 (a : Int) (b : Int) = some ((a ||| b : Nat) : Int) := by
    show some (IntKind.i32.wrap ((BitVec.ofInt 32 (a : Int) ||| BitVec.ofInt 32 (b : Int)).toNat : Int)) = _
    simp only [BitVec.ofInt_natCast, BitVec.toNat_or, BitVec.toNat_ofNat]
    rw [Nat.mod_eq_of_lt (show a < 2 ^ 32 by omega), Nat.mod_eq_of_lt (show b < 2 ^ 32 by omega), wI32 h]
  show (bitI .or .i32 (a : Int) (b : Int)).map (AVal.int .i32) = _
  rw [e]
  rfl
theorem shl_i32 {a m : Nat} (hm : m ≤ 32) (h : a * 2 ^ m < 2147483648) : binV .shl (.int .i32 (a : Int)) (.int .u64 (m : Int)) = some (.int .i32 ((a * 2 ^ m : Nat) : Int)) := by
  have e : shI .shl .i32 (a : Int) (m : Int) = some ((a * 2 ^ m : Nat) : Int) := by
    show some (IntKind.i32.wrap ((a : Int) * 2 ^ (min m 32))) = _
    rw [Nat.min_eq_left hm]
    have := wI32 h
    rw [← this]
    congr 2
  show (shI .shl .i32 (a : Int) (m : Int)).map (AVal.int .i32) = _
  rw [e]
  rfl
theorem andNot_all {a : Nat} : binV .andNot (.int .i32 (a : Int)) (.int .i32 (-1)) = some (.int .i32 ((0 : Nat) : Int)) := by
  have e : bitI .andNot .i32 (a : Int) (-1) = some ((0 : Nat) : Int) := by
    show some (IntKind.i32.wrap ((BitVec.ofInt 32 (a : Int) &&& ~~~(BitVec.ofInt 32 (-1))).toNat : Int)) = _
    have : BitVec.ofInt 32 (a : Int) &&& ~~~(BitVec.ofInt 32 (-1)) = 0#32 := by
      have h1 : ~~~(BitVec.ofInt 32 (-1)) = 0#32 := by decide
      rw [h1, BitVec.and_zero]
    rw [this]
    rfl
  show (bitI .andNot .i32 (a : Int) (-1)).map (AVal.int .i32) = _
  rw [e]
  rfl

/-! ### The tables -/
theorem v_idg {len z g c n : Nat} {k : IntKind} (h : n < len) : idaV len z (.gp g c) (.int k (n : Int)) = some (.gp g (c + n * z)) := by
  have : Nat.blt n len = true := by unfold Nat.blt; exact Nat.ble_eq_true_of_le h
  show (match Nat.blt n len with | true => some (AVal.gp g (c + n * z)) | false => none) = _
  rw [this]
/-- What table 'first' holds. -/
def firstF (b : Nat) : Nat :=
  if b < 128 then 240 else if b < 194 then 241 else if b < 224 then 2 else if b = 224 then 19 else if b < 237 then 3 else if b = 237 then 35 else if b < 240 then 3 else if b = 240 then 52 else if b < 244 then 4 else if b = 244 then 68 else 241
def fiOk : Nat → Bool
  | 0 => true
  | n + 1 => fiOk n && (match rdG1 GT 2 n with | some (.int .u8 (.ofNat k)) => Nat.beq k (firstF n) | _ => false)
theorem fiOk_256 : fiOk 256 = true := by kernel_rfl
theorem fiOk_get : ∀ (n b : Nat), fiOk n = true → b < n → rdG1 GT 2 b = some (.int .u8 (firstF b : Int))
  | 0, b, _, h => by omega
  | n + 1, b, hn, h => by
    simp only [fiOk, Bool.and_eq_true] at hn
    rcases Nat.lt_or_ge b n with hlt | hge
    · exact fiOk_get n b hn.1 hlt
    · have : b = n := by omega
      subst this
      have h2 := hn.2
      split at h2
      · rename_i k hk
        rw [hk, Nat.eq_of_beq_eq_true h2]
        rfl
      · cases h2
theorem first_at {gl : List (List AVal)} (hg : gl = GT) {b : Nat} (h : b < 256) : rdG1 gl 2 b = some (.int .u8 (firstF b : Int)) := by
  subst hg
  exact fiOk_get 256 b fiOk_256 h
theorem acc_at {gl : List (List AVal)} (hg : gl = GT) : rdGN gl 3 0 2 = some (.agg [.int .u8 ((128 : Nat) : Int), .int .u8 ((191 : Nat) : Int)]) ∧ rdGN gl 3 2 2 = some (.agg [.int .u8 ((160 : Nat) : Int), .int .u8 ((191 : Nat) : Int)]) ∧
    rdGN gl 3 4 2 = some (.agg [.int .u8 ((128 : Nat) : Int), .int .u8 ((159 : Nat) : Int)]) ∧ rdGN gl 3 6 2 = some (.agg [.int .u8 ((144 : Nat) : Int), .int .u8 ((191 : Nat) : Int)]) ∧ rdGN gl 3 8 2 = some (.agg [.int .u8 ((128 : Nat) : Int), .int .u8 ((143 : Nat) : Int)]) := by
  subst hg
  exact ⟨by rfl, by rfl, by rfl, by rfl, by rfl⟩
end Dt
