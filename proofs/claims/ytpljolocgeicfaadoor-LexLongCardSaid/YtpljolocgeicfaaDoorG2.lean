/- A part of the abstract machine and of the proof that the program does what it reckons; no conditions. -/
import Derived.Test.YtpljolocgeicfaaDoorG1
namespace Dt
open Go
set_option linter.all false
set_option maxRecDepth 100000
/-! ### Plain laws on texts of one byte -/
abbrev rep (n : Nat) (c : UInt8) : Tx := txOf (List.replicate n c)
theorem rep_len {n : Nat} {c : UInt8} : (rep n c).len = n := List.length_replicate
theorem rep_byte {n i : Nat} {c : UInt8} (h : i < n) : byteAt (rep n c) i = c.toNat := tx_get (by rw [List.getElem?_replicate, if_pos h])
theorem word_first {n c : Nat} (h : isWordC n c = true) : c % 256 ≠ 97 ∧ c % 256 ≠ 55 := by
  obtain ⟨p, hp, hb⟩ := List.any_eq_true.1 h
  rw [Bool.and_eq_true] at hb
  have hc := Nat.eq_of_beq_eq_true hb.2
  subst hc
  have key : ∀ p ∈ wordList, p.2 % 256 ≠ 97 ∧ p.2 % 256 ≠ 55 := by decide +kernel
  exact key p hp
theorem byte_zero {w : Tx} : byteAt w 0 = w.code % 256 := by rw [byteAt, sget_eq, Nat.pow_zero, Nat.div_one]
theorem not_word {w : Tx} (h : byteAt w 0 = 97 ∨ byteAt w 0 = 55) : isWordC w.len w.code = false := by
  cases hb : isWordC w.len w.code with
  | false => rfl
  | true =>
    have := word_first hb
    rw [byte_zero] at h
    omega
theorem all_digits {w : Tx} : ∀ (k i : Nat), (∀ j, i ≤ j → j < i + k → byteAt w j = 55) → digitsFrom w i k = true
  | 0, i, _ => rfl
  | k + 1, i, h => by
    rw [digitsFrom, h i (Nat.le_refl _) (by omega), all_digits k (i + 1) (fun j h1 h2 => h j (by omega) (by omega))]
    rfl
theorem kind_name {t : Tok} {w : Tx} (h7 : t.kind = 7) (h0 : 0 < w.len) (hb : ∀ i, i < w.len → byteAt w i = 97) : (kindOf t w).2 = (if 60 < w.len then 2 else 0) ∧ (kindOf t w).1.kind = 1 := by
  have hd : allDigits w = false := by
    obtain ⟨m, hm⟩ : ∃ m, w.len = m + 1 := ⟨w.len - 1, by omega⟩
    unfold allDigits
    rw [hm, digitsFrom, hb 0 h0]
    rfl
  unfold kindOf
  rw [if_neg (by omega), not_word (Or.inl (hb 0 h0)), if_neg (by simp), hd, if_neg (by simp), no_dots (fun i hi => by rw [hb i hi]; omega)]
  exact ⟨rfl, rfl⟩
theorem kind_number {t : Tok} {w : Tx} (h7 : t.kind = 7) (h0 : 0 < w.len) (hb : ∀ i, i < w.len → byteAt w i = 55) : (kindOf t w).2 = (if 9 < w.len then 41 else 0) ∧ (kindOf t w).1.kind = 3 := by
  have hd : allDigits w = true := all_digits _ _ fun j _ h => hb j (by omega)
  unfold kindOf
  rw [if_neg (by omega), not_word (Or.inr (hb 0 h0)), if_neg (by simp), hd, if_pos rfl]
  exact ⟨rfl, rfl⟩
/-- A text that is one run: what is told of it hangs on the run alone. -/
theorem one_run {l : Tx} {n e : Nat} (hl : l.len = n) (hn : 0 < n) (hn' : n ≤ 1000) (hb : ∀ i, i < n → 33 ≤ byteAt l i ∧ byteAt l i < 127 ∧ isDelim (byteAt l i) = false ∧ byteAt l i ≠ 45)
    (he : ∀ t : Tok, t.kind = 7 → (kindOf t (cutOf l 0 n)).2 = e ∧ (kindOf t (cutOf l 0 n)).1.kind ≠ 7) : (tokensOf l).2.2 = e := by
  unfold tokensOf
  rw [if_neg (by omega)]
  have b0 := hb 0 hn
  have h1 : blank l (l.len + 1) ⟨0, 1, 1, 0⟩ = ⟨0, 1, 1, 0⟩ := blank_stop (Or.inr ⟨by show byteAt l 0 ≠ 32; omega, by show byteAt l 0 ≠ 10; omega, b0.2.2.2⟩)
  have h3 : lexRun l ⟨0, 1, 1, 0⟩ = ⟨n, 1, 1 + n, 0⟩ := by
    unfold lexRun
    rw [show isDelim (byteAt l (Lx.at_ ⟨0, 1, 1, 0⟩)) = false from b0.2.2.1, if_neg (by simp), hl, Nat.add_comm n 1, run_word 1 n 0 1 1 (fun i hi => by rw [Nat.zero_add]; have := hb i hi; exact ⟨this.1, this.2.1, this.2.2.1⟩) (by omega), Nat.zero_add]
    exact run_stop (Or.inl (by show l.len ≤ n; omega))
  obtain ⟨t, ht⟩ : ∃ t, lexTok l ⟨0, 1, 1, 0⟩ ⟨n, 1, 1 + n, 0⟩ = (t, e) ∧ t.kind ≠ 7 := by
    unfold lexTok
    rw [show isDelim (byteAt l (Lx.at_ ⟨0, 1, 1, 0⟩)) = false from b0.2.2.1, if_neg (by simp)]
    obtain ⟨k1, k2⟩ := he ⟨7, (cutOf l 0 n).len, (cutOf l 0 n).code, 0, 1, 1⟩ rfl
    exact ⟨_, Prod.ext rfl k1, k2⟩
  by_cases h : e = 0
  · subst h
    rw [round_tok h1 rfl (by show 0 < l.len; omega) h3 rfl ht.1 ht.2 (by simp), round_end (x := ⟨n, 1, 1 + n, 0⟩) (blank_stop (Or.inl (by show l.len ≤ n; omega))) rfl (by show l.len ≤ n; omega), if_neg (by simp)]
  · rw [round_bad h1 rfl (by show 0 < l.len; omega) h3 rfl ht.1 h]
theorem told_name {n : Nat} (h1 : 1 ≤ n) (h2 : n ≤ 80) : (tokensOf (rep n 97)).2.2 = if 60 < n then 2 else 0 := by
  refine one_run rep_len h1 (by omega) (fun i hi => by rw [rep_byte hi]; exact ⟨by decide, by decide, by decide, by decide⟩) fun t ht => ?_
  have hb : ∀ i, i < (cutOf (rep n 97) 0 n).len → byteAt (cutOf (rep n 97) 0 n) i = 97 := fun i hi => by
    have hi' : i < n - 0 := hi
    rw [cut_byte hi', Nat.zero_add, rep_byte (by omega)]
    rfl
  obtain ⟨k1, k2⟩ := kind_name (w := cutOf (rep n 97) 0 n) ht (by show 0 < n - 0; omega) hb
  exact ⟨k1, by omega⟩
theorem told_number {n : Nat} (h1 : 1 ≤ n) (h2 : n ≤ 20) : (tokensOf (rep n 55)).2.2 = if 9 < n then 41 else 0 := by
  refine one_run rep_len h1 (by omega) (fun i hi => by rw [rep_byte hi]; exact ⟨by decide, by decide, by decide, by decide⟩) fun t ht => ?_
  have hb : ∀ i, i < (cutOf (rep n 55) 0 n).len → byteAt (cutOf (rep n 55) 0 n) i = 55 := fun i hi => by
    have hi' : i < n - 0 := hi
    rw [cut_byte hi', Nat.zero_add, rep_byte (by omega)]
    rfl
  obtain ⟨k1, k2⟩ := kind_number (w := cutOf (rep n 55) 0 n) ht (by show 0 < n - 0; omega) hb
  exact ⟨k1, by omega⟩
theorem told_spaces {n : Nat} : (tokensOf (rep n 32)).2.2 = if 65536 < n then 2 else 0 := by
  unfold tokensOf
  rw [rep_len]
  by_cases h : 65536 < n
  · rw [if_pos h, if_pos h]
  · rw [if_neg h, if_neg h]
    have h1 : blank (rep n 32) ((rep n 32).len + 1) ⟨0, 1, 1, 0⟩ = ⟨n, 1, 1 + n, 0⟩ := by
      rw [rep_len, Nat.add_comm n 1, blank_spaces 1 n 0 1 1 (fun i hi => by rw [Nat.zero_add, rep_byte hi]; rfl) (by rw [rep_len]; omega), Nat.zero_add]
      exact blank_stop (Or.inl (by show (rep n 32).len ≤ n; rw [rep_len]; exact Nat.le_refl _))
    rw [round_end h1 rfl (by show (rep n 32).len ≤ n; rw [rep_len]; exact Nat.le_refl _), if_neg (by simp)]
theorem semis {n : Nat} : ∀ (k a : Nat) (out : List Tok), out.length = a → a + k = 20000 → a ≤ n → (lexAll (rep n 59) (k + 1) ⟨a, 1, 1 + a, 0⟩ out).2 = if 20000 ≤ n then (20000, 2) else (0, 0) := by
  intro k
  induction k with
  | zero =>
    intro a out ho hk ha
    have h1 : blank (rep n 59) ((rep n 59).len + 1) ⟨a, 1, 1 + a, 0⟩ = ⟨a, 1, 1 + a, 0⟩ := by
      refine blank_stop ?_
      by_cases h : a < n
      · right
        show byteAt (rep n 59) a ≠ 32 ∧ byteAt (rep n 59) a ≠ 10 ∧ byteAt (rep n 59) a ≠ 45
        rw [rep_byte h]
        decide
      · left
        show (rep n 59).len ≤ a
        rw [rep_len]
        omega
    obtain rfl : a = 20000 := by omega
    rw [if_pos ha]
    by_cases h : 20000 < n
    · have hd : isDelim (byteAt (rep n 59) 20000) = true := by rw [rep_byte h]; rfl
      have h3 : lexRun (rep n 59) ⟨20000, 1, 1 + 20000, 0⟩ = ⟨20000 + 1, 1, 1 + 20000 + 1, 0⟩ := by
        unfold lexRun
        rw [show isDelim (byteAt (rep n 59) (Lx.at_ ⟨20000, 1, 1 + 20000, 0⟩)) = true from hd, if_pos rfl]
        have hb : byteAt (rep n 59) 20000 = 59 := by rw [rep_byte h]; rfl
        exact pass_plain (by show 32 ≤ byteAt (rep n 59) 20000; omega) (by show byteAt (rep n 59) 20000 < 127; omega)
      have h5 : ∃ t : Tok, lexTok (rep n 59) ⟨20000, 1, 1 + 20000, 0⟩ ⟨20000 + 1, 1, 1 + 20000 + 1, 0⟩ = (t, 0) ∧ t.at_ = 20000 := by
        unfold lexTok
        rw [show isDelim (byteAt (rep n 59) (Lx.at_ ⟨20000, 1, 1 + 20000, 0⟩)) = true from hd, if_pos rfl]
        unfold kindOf
        rw [if_pos rfl]
        exact ⟨_, rfl, rfl⟩
      obtain ⟨t, h5, h6⟩ := h5
      rw [round_full h1 rfl (by show 20000 < (rep n 59).len; rw [rep_len]; exact h) h3 rfl h5 (by omega), h6]
    · rw [round_end h1 rfl (by show (rep n 59).len ≤ 20000; rw [rep_len]; omega), if_pos (by omega)]
  | succ k ih =>
    intro a out ho hk ha
    by_cases h : a < n
    · have hb : byteAt (rep n 59) a = 59 := by rw [rep_byte h]; rfl
      have hd : isDelim (byteAt (rep n 59) a) = true := by rw [hb]; rfl
      have h1 : blank (rep n 59) ((rep n 59).len + 1) ⟨a, 1, 1 + a, 0⟩ = ⟨a, 1, 1 + a, 0⟩ := by
        refine blank_stop (Or.inr ?_)
        show byteAt (rep n 59) a ≠ 32 ∧ byteAt (rep n 59) a ≠ 10 ∧ byteAt (rep n 59) a ≠ 45
        omega
      have h3 : lexRun (rep n 59) ⟨a, 1, 1 + a, 0⟩ = ⟨a + 1, 1, 1 + (a + 1), 0⟩ := by
        unfold lexRun
        rw [show isDelim (byteAt (rep n 59) (Lx.at_ ⟨a, 1, 1 + a, 0⟩)) = true from hd, if_pos rfl]
        exact pass_plain (by show 32 ≤ byteAt (rep n 59) a; omega) (by show byteAt (rep n 59) a < 127; omega)
      have h5 : ∃ t : Tok, lexTok (rep n 59) ⟨a, 1, 1 + a, 0⟩ ⟨a + 1, 1, 1 + (a + 1), 0⟩ = (t, 0) ∧ t.kind = 2 := by
        unfold lexTok
        rw [show isDelim (byteAt (rep n 59) (Lx.at_ ⟨a, 1, 1 + a, 0⟩)) = true from hd, if_pos rfl]
        unfold kindOf
        rw [if_pos rfl]
        exact ⟨_, rfl, rfl⟩
      obtain ⟨t, h5, h6⟩ := h5
      rw [round_tok h1 rfl (by show a < (rep n 59).len; rw [rep_len]; exact h) h3 rfl h5 (by omega) (by omega)]
      exact ih (a + 1) (out ++ [t]) (by simp [ho]) (by omega) (by omega)
    · have h1 : blank (rep n 59) ((rep n 59).len + 1) ⟨a, 1, 1 + a, 0⟩ = ⟨a, 1, 1 + a, 0⟩ := blank_stop (Or.inl (by show (rep n 59).len ≤ a; rw [rep_len]; omega))
      rw [round_end h1 rfl (by show (rep n 59).len ≤ a; rw [rep_len]; omega), if_neg (by omega), if_neg (by omega)]
theorem told_semis {n : Nat} (h : n ≤ 20010) : (tokensOf (rep n 59)).2 = if 20000 ≤ n then (20000, 2) else (0, 0) := by
  unfold tokensOf
  rw [rep_len, if_neg (by omega)]
  exact semis 20000 0 [] rfl rfl (Nat.zero_le _)
end Dt
