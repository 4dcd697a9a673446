/- A part of the abstract machine and of the proof that the program does what it reckons; no conditions. -/
import Derived.Test.YtpljolocgeicfaaDoorM24
namespace Dt
open Go
set_option linter.all false
set_option maxRecDepth 100000
/-! ### Plain laws on tokens: blanks, runs, kinds -/
def txOf (l : List UInt8) : Tx := ⟨l.length, codeOf l⟩
theorem tx_byte {l : List UInt8} {i : Nat} (h : i < l.length) : byteAt (txOf l) i = (l[i]'h).toNat := by
  rw [byteAt, sget_eq]
  exact codeOf_get l i h
theorem tx_get {l : List UInt8} {i : Nat} {v : UInt8} (h : l[i]? = some v) : byteAt (txOf l) i = v.toNat := by
  obtain ⟨h1, h2⟩ := List.getElem?_eq_some_iff.1 h
  rw [tx_byte h1, h2]
theorem cat_l {l m : List UInt8} (h : l.length + m.length ≤ 1000000) : binV .add (.str l.length (codeOf l)) (.str m.length (codeOf m)) = some (.str (l ++ m).length (codeOf (l ++ m))) := by
  rw [v_cat (by omega), List.length_append, codeOf_append, scat_eq]
theorem cut_byte {l : Tx} {a b i : Nat} (h : i < b - a) : byteAt (cutOf l a b) i = byteAt l (a + i) := by
  unfold byteAt cutOf
  simp only
  rw [sget_eq, sget_eq, scut_eq]
  have e : 256 ^ (b - a) = 256 ^ i * 256 ^ (b - a - i) := by rw [← Nat.pow_add]; congr 1; omega
  rw [e, Nat.mod_mul_right_div_self, Nat.div_div_eq_div_mul, ← Nat.pow_add]
  obtain ⟨d, hd⟩ : ∃ d, b - a - i = d + 1 := ⟨b - a - i - 1, by omega⟩
  rw [hd, Nat.pow_succ, Nat.mul_comm (256 ^ d) 256, Nat.mod_mul_right_mod]
theorem cut_len {l : Tx} {a b : Nat} : (cutOf l a b).len = b - a := rfl
section
variable {l : Tx}
theorem pass_plain {x : Lx} (h1 : 32 ≤ byteAt l x.at_) (h2 : byteAt l x.at_ < 127) : passed l x = ⟨x.at_ + 1, x.line, x.col + 1, x.e⟩ := by
  have hr : rune l x.at_ = 1 := by unfold rune; rw [if_pos (by omega)]
  unfold passed
  rw [hr, if_neg (by omega), if_neg (by omega), if_neg (by omega)]
theorem pass_line {x : Lx} (h : byteAt l x.at_ = 10) : passed l x = ⟨x.at_ + 1, x.line + 1, 1, x.e⟩ := by
  have hr : rune l x.at_ = 1 := by unfold rune; rw [if_pos (by omega)]
  unfold passed
  rw [hr, if_neg (by omega), if_neg (by omega), if_pos h]
theorem blank_spaces (k : Nat) : ∀ (m a line col : Nat), (∀ i, i < m → byteAt l (a + i) = 32) → a + m ≤ l.len → blank l (k + m) ⟨a, line, col, 0⟩ = blank l k ⟨a + m, line, col + m, 0⟩
  | 0, a, line, col, _, _ => rfl
  | m + 1, a, line, col, hb, hl => by
    have h0 : byteAt l a = 32 := hb 0 (by omega)
    rw [show k + (m + 1) = (k + m) + 1 by omega, blank, if_pos ⟨by show a < l.len; omega, rfl⟩, if_pos (Or.inl h0), pass_plain (by show 32 ≤ byteAt l a; omega) (by show byteAt l a < 127; omega)]
    rw [blank_spaces k m (a + 1) line (col + 1) (fun i hi => by have := hb (i + 1) (by omega); rw [show a + 1 + i = a + (i + 1) by omega]; exact this) (by omega)]
    rw [show a + 1 + m = a + (m + 1) by omega, show col + 1 + m = col + (m + 1) by omega]
theorem blank_lines (k : Nat) : ∀ (m a line : Nat), (∀ i, i < m → byteAt l (a + i) = 10) → a + m ≤ l.len → blank l (k + m) ⟨a, line, 1, 0⟩ = blank l k ⟨a + m, line + m, 1, 0⟩
  | 0, a, line, _, _ => rfl
  | m + 1, a, line, hb, hl => by
    have h0 : byteAt l a = 10 := hb 0 (by omega)
    rw [show k + (m + 1) = (k + m) + 1 by omega, blank, if_pos ⟨by show a < l.len; omega, rfl⟩, if_pos (Or.inr h0), pass_line h0]
    rw [blank_lines k m (a + 1) (line + 1) (fun i hi => by have := hb (i + 1) (by omega); rw [show a + 1 + i = a + (i + 1) by omega]; exact this) (by omega)]
    rw [show a + 1 + m = a + (m + 1) by omega, show line + 1 + m = line + (m + 1) by omega]
theorem blank_stop {k : Nat} {x : Lx} (h : l.len ≤ x.at_ ∨ (byteAt l x.at_ ≠ 32 ∧ byteAt l x.at_ ≠ 10 ∧ byteAt l x.at_ ≠ 45)) : blank l k x = x := by
  cases k with
  | zero => rfl
  | succ k =>
    rw [blank]
    rcases h with h | ⟨h1, h2, h3⟩
    · rw [if_neg (by omega)]
    · by_cases hc : x.at_ < l.len ∧ x.e = 0
      · rw [if_pos hc, if_neg (by omega), if_neg (by omega)]
      · rw [if_neg hc]
theorem run_word (k : Nat) : ∀ (m a line col : Nat), (∀ i, i < m → 33 ≤ byteAt l (a + i) ∧ byteAt l (a + i) < 127 ∧ isDelim (byteAt l (a + i)) = false) → a + m ≤ l.len → runTo l (k + m) ⟨a, line, col, 0⟩ = runTo l k ⟨a + m, line, col + m, 0⟩
  | 0, a, line, col, _, _ => rfl
  | m + 1, a, line, col, hb, hl => by
    obtain ⟨h0, h1, h2⟩ : 33 ≤ byteAt l a ∧ byteAt l a < 127 ∧ isDelim (byteAt l a) = false := hb 0 (by omega)
    rw [show k + (m + 1) = (k + m) + 1 by omega, runTo, if_pos ⟨by show a < l.len; omega, by show byteAt l a ≠ 32; omega, by show byteAt l a ≠ 10; omega, h2, rfl⟩, pass_plain (by show 32 ≤ byteAt l a; omega) h1]
    rw [run_word k m (a + 1) line (col + 1) (fun i hi => by have := hb (i + 1) (by omega); rw [show a + 1 + i = a + (i + 1) by omega]; exact this) (by omega)]
    rw [show a + 1 + m = a + (m + 1) by omega, show col + 1 + m = col + (m + 1) by omega]
theorem run_stop {k : Nat} {x : Lx} (h : l.len ≤ x.at_ ∨ byteAt l x.at_ = 32 ∨ byteAt l x.at_ = 10 ∨ isDelim (byteAt l x.at_) = true) : runTo l k x = x := by
  cases k with
  | zero => rfl
  | succ k =>
    rw [runTo, if_neg]
    rintro ⟨h1, h2, h3, h4, _⟩
    rcases h with h | h | h | h
    · omega
    · exact h2 h
    · exact h3 h
    · rw [h] at h4; cases h4
theorem any_none {p : Nat → Bool} : ∀ (k i : Nat), (∀ j, i ≤ j → j < i + k → p j = false) → anyFrom p i k = false
  | 0, i, _ => rfl
  | k + 1, i, h => by
    rw [anyFrom, h i (Nat.le_refl _) (by omega), any_none k (i + 1) (fun j h1 h2 => h j (by omega) (by omega))]
    rfl
theorem no_dots {w : Tx} (h : ∀ i, i < w.len → byteAt w i ≠ 46) : dotsBad w = false := by
  unfold dotsBad
  refine any_none _ _ fun j _ hj => ?_
  unfold dotAt
  rw [decide_eq_false (h j (by omega)), Bool.false_and]
/-- A run without dots that is not too long is a word, a number or a name. -/
theorem kind_fine {t : Tok} {w : Tx} (hw : w.len ≤ 9) (hd : ∀ i, i < w.len → byteAt w i ≠ 46) :
    (kindOf t w).2 = 0 ∧ (kindOf t w).1.at_ = t.at_ ∧ (kindOf t w).1.line = t.line ∧ (kindOf t w).1.col = t.col ∧ (kindOf t w).1.kind ≠ 7 ∨ t.kind = 2 := by
  by_cases h2 : t.kind = 2
  · exact Or.inr h2
  refine Or.inl ?_
  unfold kindOf
  rw [if_neg h2]
  split
  · split
    · exact ⟨rfl, rfl, rfl, rfl, by simp⟩
    · split
      · exact ⟨rfl, rfl, rfl, rfl, by simp⟩
      · exact ⟨rfl, rfl, rfl, rfl, by simp⟩
  · split
    · exact ⟨if_neg (by omega), rfl, rfl, rfl, by simp⟩
    · refine ⟨?_, rfl, rfl, rfl, by simp⟩
      simp only
      rw [if_neg (by omega), no_dots hd]
      rfl
/-- One round of the reference, blanks ahead and a run behind them. -/
theorem round_tok {k : Nat} {x y z : Lx} {out : List Tok} {t : Tok} (h1 : blank l (l.len + 1) x = y) (h2 : y.e = 0) (hlt : y.at_ < l.len) (h3 : lexRun l y = z) (h4 : z.e = 0) (h5 : lexTok l y z = (t, 0)) (h6 : t.kind ≠ 7) (h7 : out.length < 20000) :
    lexAll l (k + 1) x out = lexAll l k z (out ++ [t]) := by
  rw [lexAll, h1, if_pos h2]
  have : lexStep l y = .inr (t, z) := by
    unfold lexStep
    rw [if_pos hlt, h3, if_pos h4, h5, if_pos rfl]
  rw [this]
  simp only
  rw [if_neg (by omega), if_neg h6]
theorem round_bad {k : Nat} {x y z : Lx} {out : List Tok} {e : Nat} {t : Tok} (h1 : blank l (l.len + 1) x = y) (h2 : y.e = 0) (hlt : y.at_ < l.len) (h3 : lexRun l y = z) (h4 : z.e = 0) (h5 : lexTok l y z = (t, e)) (h6 : e ≠ 0) :
    lexAll l (k + 1) x out = ([], y.at_, e) := by
  rw [lexAll, h1, if_pos h2]
  have : lexStep l y = .inl (y.at_, e) := by
    unfold lexStep
    rw [if_pos hlt, h3, if_pos h4, h5, if_neg h6]
  rw [this]
theorem round_full {k : Nat} {x y z : Lx} {out : List Tok} {t : Tok} (h1 : blank l (l.len + 1) x = y) (h2 : y.e = 0) (hlt : y.at_ < l.len) (h3 : lexRun l y = z) (h4 : z.e = 0) (h5 : lexTok l y z = (t, 0)) (h7 : 20000 ≤ out.length) :
    lexAll l (k + 1) x out = ([], t.at_, 2) := by
  rw [lexAll, h1, if_pos h2]
  have : lexStep l y = .inr (t, z) := by
    unfold lexStep
    rw [if_pos hlt, h3, if_pos h4, h5, if_pos rfl]
  rw [this]
  simp only
  rw [if_pos h7]
theorem round_end {k : Nat} {x y : Lx} {out : List Tok} (h1 : blank l (l.len + 1) x = y) (h2 : y.e = 0) (hlt : l.len ≤ y.at_) :
    lexAll l (k + 1) x out = if 20000 ≤ out.length then ([], y.at_, 2) else (out ++ [⟨7, 0, 0, y.at_, y.line, y.col⟩], 0, 0) := by
  rw [lexAll, h1, if_pos h2]
  have : lexStep l y = .inr (⟨7, 0, 0, y.at_, y.line, y.col⟩, y) := by
    unfold lexStep
    rw [if_neg (by omega)]
  rw [this]
  simp only
  by_cases h : 20000 ≤ out.length
  · rw [if_pos h, if_pos h]
  · rw [if_neg h, if_neg h, if_pos trivial]
end
end Dt
