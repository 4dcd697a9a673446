/- A part of the abstract machine and of the proof that the program does what it reckons; no conditions. -/
import Derived.Test.YtpljolocgeicfaaDoorM6
namespace Dt
open Go
set_option linter.all false
set_option maxRecDepth 100000
/-! ### The reference's runes, by the first byte -/
theorem contR_1 {t : Tx} {i v : Nat} : contR t i 1 v = if byteAt t i < 128 ∨ 192 ≤ byteAt t i then none else some (64 * v + byteAt t i - 128) := by
  unfold contR
  split <;> rfl
theorem contR_s {t : Tx} {i k v : Nat} : contR t i (k + 1) v = if byteAt t i < 128 ∨ 192 ≤ byteAt t i then none else contR t (i + 1) k (64 * v + byteAt t i - 128) := by
  rw [contR]
theorem rune_bad {t : Tx} (h : 128 ≤ byteAt t 0) (h2 : byteAt t 0 < 194 ∨ 245 ≤ byteAt t 0) : rune t 0 = 0 := by
  have hb := byteAt_lt t 0
  unfold rune
  rw [if_neg (by omega)]
  split
  · rename_i g
    unfold tailR
    split
    · rfl
    · rw [contR_1]
      split
      · rfl
      · rename_i g1
        have := byteAt_lt t (0 + 1)
        simp only [endR]
        rw [if_pos (by omega)]
  · split
    · omega
    · split
      · rename_i g g1 g2
        unfold tailR
        split
        · rfl
        · have b1 := byteAt_lt t (0 + 1)
          have b2 := byteAt_lt t (0 + 1 + 1)
          have b3 := byteAt_lt t (0 + 1 + 1 + 1)
          rw [show 4 - 1 = 1 + 1 + 1 from rfl, contR_s]
          split
          · rfl
          · rw [contR_s]
            split
            · rfl
            · rw [contR_1]
              split
              · rfl
              · simp only [endR]
                rw [if_pos (by omega)]
      · rfl
theorem rune_2 {t : Tx} (h : 194 ≤ byteAt t 0) (h2 : byteAt t 0 < 224) : rune t 0 = if 2 ≤ t.len ∧ 128 ≤ byteAt t 1 ∧ byteAt t 1 ≤ 191 then 2 else 0 := by
  have b1 := byteAt_lt t 1
  unfold rune
  rw [if_neg (by omega), if_pos (by omega)]
  unfold tailR
  split
  · rw [if_neg (by omega)]
  · rw [contR_1, Nat.zero_add]
    split
    · rw [if_neg (by omega)]; rfl
    · rw [if_pos (by omega)]
      simp only [endR]
      rw [if_neg (by omega)]
theorem rune_3 {t : Tx} (h : 224 ≤ byteAt t 0) (h2 : byteAt t 0 < 240) : rune t 0 = if 3 ≤ t.len ∧ (if byteAt t 0 = 224 then 160 else 128) ≤ byteAt t 1 ∧ byteAt t 1 ≤ (if byteAt t 0 = 237 then 159 else 191) ∧ 128 ≤ byteAt t 2 ∧ byteAt t 2 ≤ 191 then 3 else 0 := by
  have b1 := byteAt_lt t 1
  have b2 := byteAt_lt t 2
  unfold rune
  rw [if_neg (by omega), if_neg (by omega), if_pos (by omega)]
  unfold tailR
  split
  · rw [if_neg (by omega)]
  · rw [show 3 - 1 = 1 + 1 from rfl, contR_s, Nat.zero_add]
    split
    · rw [if_neg (by split <;> split <;> omega)]; rfl
    · rw [contR_1, show 1 + 1 = 2 from rfl]
      split
      · rw [if_neg (by split <;> split <;> omega)]; rfl
      · simp only [endR]
        split
        · rw [if_neg (by split <;> split <;> omega)]
        · rw [if_pos (by split <;> split <;> omega)]
theorem rune_4 {t : Tx} (h : 240 ≤ byteAt t 0) (h2 : byteAt t 0 < 245) : rune t 0 = if 4 ≤ t.len ∧ (if byteAt t 0 = 240 then 144 else 128) ≤ byteAt t 1 ∧ byteAt t 1 ≤ (if byteAt t 0 = 244 then 143 else 191) ∧ 128 ≤ byteAt t 2 ∧ byteAt t 2 ≤ 191 ∧ 128 ≤ byteAt t 3 ∧ byteAt t 3 ≤ 191 then 4 else 0 := by
  have b1 := byteAt_lt t 1
  have b2 := byteAt_lt t 2
  have b3 := byteAt_lt t 3
  unfold rune
  rw [if_neg (by omega), if_neg (by omega), if_neg (by omega), if_pos (by omega)]
  unfold tailR
  split
  · rw [if_neg (by omega)]
  · rw [show 4 - 1 = 1 + 1 + 1 from rfl, contR_s, Nat.zero_add]
    split
    · rw [if_neg (by split <;> split <;> omega)]; rfl
    · rw [contR_s, show 1 + 1 = 2 from rfl]
      split
      · rw [if_neg (by split <;> split <;> omega)]; rfl
      · rw [contR_1, show 2 + 1 = 3 from rfl]
        split
        · rw [if_neg (by split <;> split <;> omega)]; rfl
        · simp only [endR]
          split
          · rw [if_neg (by split <;> split <;> omega)]
          · rw [if_pos (by split <;> split <;> omega)]

/-! their values are not small -/
theorem or_ge {a b c : Nat} (h : c ≤ a) : c ≤ a ||| b := Nat.le_trans h Nat.left_le_or
theorem or_ge' {a b c : Nat} (h : c ≤ b) : c ≤ a ||| b := Nat.le_trans h Nat.right_le_or
theorem all_bytes {p : Nat → Prop} [DecidablePred p] (h : ∀ b, b < 256 → p b) (b : Nat) (hb : b < 256) : p b := h b hb
theorem and31 : ∀ b, b < 256 → 194 ≤ b → b < 224 → 2 ≤ b &&& 31 := by decide +kernel
theorem and15 : ∀ b, b < 256 → 225 ≤ b → b < 240 → 1 ≤ b &&& 15 := by decide +kernel
theorem and7 : ∀ b, b < 256 → 241 ≤ b → b < 245 → 1 ≤ b &&& 7 := by decide +kernel
theorem and63 : ∀ b, b < 256 → 160 ≤ b → b < 192 → 32 ≤ b &&& 63 := by decide +kernel
theorem and63' : ∀ b, b < 256 → 144 ≤ b → b < 192 → 16 ≤ b &&& 63 := by decide +kernel
theorem val2_ge {t : Tx} (h : 194 ≤ byteAt t 0) (h2 : byteAt t 0 < 224) : 128 ≤ val2 t := by
  have := and31 _ (byteAt_lt t 0) h h2
  exact or_ge (by omega)
theorem val3_ge {t : Tx} (h : 224 ≤ byteAt t 0) (h2 : byteAt t 0 < 240) (h3 : byteAt t 0 = 224 → 160 ≤ byteAt t 1) (h4 : byteAt t 1 ≤ 191) : 128 ≤ val3 t := by
  refine or_ge ?_
  by_cases e : byteAt t 0 = 224
  · have := and63 _ (byteAt_lt t 1) (h3 e) (by omega)
    exact or_ge' (by omega)
  · have := and15 _ (byteAt_lt t 0) (by omega) h2
    exact or_ge (by omega)
theorem val4_ge {t : Tx} (h : 240 ≤ byteAt t 0) (h2 : byteAt t 0 < 245) (h3 : byteAt t 0 = 240 → 144 ≤ byteAt t 1) (h4 : byteAt t 1 ≤ 191) : 128 ≤ val4 t := by
  refine or_ge (or_ge ?_)
  by_cases e : byteAt t 0 = 240
  · have := and63' _ (byteAt_lt t 1) (h3 e) (by omega)
    exact or_ge' (by omega)
  · have := and7 _ (byteAt_lt t 0) (by omega) h2
    exact or_ge (by omega)
end Dt
