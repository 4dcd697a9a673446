/- A part of the abstract machine and of the proof that the program does what it reckons; no conditions. -/
import Derived.Test.YtpljolocgeicfaaDoorM16
namespace Dt
open Go
set_option linter.all false
set_option maxRecDepth 100000
/-! ### The scanner's ways are the reference's -/
section
variable {l : Tx}
theorem passed_fine {x : Lx} (h : byteAt l x.at_ = 32 ∨ byteAt l x.at_ = 10 ∨ isDelim (byteAt l x.at_) = true ∨ byteAt l x.at_ = 45) : (passed l x).e = x.e := by
  have hb : byteAt l x.at_ = 10 ∨ (32 ≤ byteAt l x.at_ ∧ byteAt l x.at_ < 127) := by
    rcases h with h | h | h | h
    · omega
    · omega
    · simp only [isDelim, Bool.or_eq_true, beq_iff_eq] at h; omega
    · omega
  have hr : rune l x.at_ = 1 := by unfold rune; rw [if_pos (by omega)]
  unfold passed
  rw [hr, if_neg (by omega), if_neg (by omega)]
  split <;> rfl
theorem comm_till : ∀ (k : Nat) (x : Lx), comm l k x = tillM l lineQ k x
  | 0, x => rfl
  | k + 1, x => by
    rw [comm, tillM]
    by_cases h : x.at_ < l.len ∧ x.e = 0
    · rw [if_pos h]
      by_cases h2 : byteAt l x.at_ = 10
      · rw [if_neg (fun hh => hh.2.1 h2), if_neg (fun hn => hn (by rw [passed_fine (.inr (.inl h2))]; exact h.2)), if_pos (by simp [lineQ, h2])]
      · rw [if_pos ⟨h.1, h2, h.2⟩, comm_till k]
        by_cases h3 : (passed l x).e = 0
        · rw [if_neg (fun hn => hn h3), if_neg (by simp [lineQ, h2])]
        · rw [if_pos h3]
          cases k with
          | zero => rfl
          | succ k => rw [tillM, if_neg (fun hh => h3 hh.2)]
    · rw [if_neg h, if_neg (fun hh => h ⟨hh.1, hh.2.2⟩)]
theorem ends_iff {b : Nat} : endsQ b = true ↔ b = 32 ∨ b = 10 ∨ isDelim b = true := by
  simp only [endsQ, endsC, solidC, Bool.or_eq_true, Bool.not_eq_true', Bool.and_eq_false_iff, Bool.not_eq_false', decide_eq_true_eq]
  constructor
  · rintro ((h | h) | h)
    · exact .inl h
    · exact .inr (.inl h)
    · exact .inr (.inr h)
  · rintro (h | h | h)
    · exact .inl (.inl h)
    · exact .inl (.inr h)
    · exact .inr h
theorem runTo_till : ∀ (k : Nat) (x : Lx), runTo l k x = tillM l endsQ k x
  | 0, x => rfl
  | k + 1, x => by
    rw [runTo, tillM]
    by_cases h : x.at_ < l.len ∧ x.e = 0
    · rw [if_pos h]
      by_cases h2 : endsQ (byteAt l x.at_) = true
      · have h2' := ends_iff.1 h2
        have hf : (passed l x).e = 0 := by
          rw [passed_fine (by rcases h2' with h | h | h; exact .inl h; exact .inr (.inl h); exact .inr (.inr (.inl h)))]
          exact h.2
        rw [if_neg (fun hh => by rcases h2' with h | h | h; exact hh.2.1 h; exact hh.2.2.1 h; rw [h] at hh; cases hh.2.2.2.1), if_neg (fun hn => hn hf), if_pos h2]
      · have h2' : ¬ (byteAt l x.at_ = 32 ∨ byteAt l x.at_ = 10 ∨ isDelim (byteAt l x.at_) = true) := fun hh => h2 (ends_iff.2 hh)
        have hd : isDelim (byteAt l x.at_) = false := by
          cases hb : isDelim (byteAt l x.at_) with
          | false => rfl
          | true => exact absurd (.inr (.inr hb)) h2'
        rw [if_pos ⟨h.1, fun e => h2' (.inl e), fun e => h2' (.inr (.inl e)), hd, h.2⟩, runTo_till k]
        by_cases h3 : (passed l x).e = 0
        · rw [if_neg (fun hn => hn h3), if_neg h2]
        · rw [if_pos h3]
          cases k with
          | zero => rfl
          | succ k => rw [tillM, if_neg (fun hh => h3 hh.2)]
    · rw [if_neg h, if_neg (fun hh => h ⟨hh.1, hh.2.2.2.2⟩)]

/-! enough fuel -/
theorem till_fuel {q : Nat → Bool} : ∀ (k : Nat) (x : Lx), x.Ok l → x.left l ≤ k → tillM l q (k + 1) x = tillM l q k x
  | 0, x, hx, h => by
    have he : x.e ≠ 0 := fun he => by simp only [Lx.left, he, if_true] at h; omega
    have e : tillM l q 1 x = x := by rw [tillM, if_neg (fun hh => he hh.2)]
    exact e
  | k + 1, x, hx, h => by
    rw [tillM]
    rw [show tillM l q (k + 1) x = (if x.at_ < l.len ∧ x.e = 0 then (if (passed l x).e ≠ 0 then passed l x else if q (byteAt l x.at_) then x else tillM l q k (passed l x)) else x) from rfl]
    by_cases hc : x.at_ < l.len ∧ x.e = 0
    · rw [if_pos hc, if_pos hc]
      have := passed_left hc.1 hc.2
      rw [till_fuel k (passed l x) (passed_ok hx hc.1) (by omega)]
    · rw [if_neg hc, if_neg hc]
theorem blank_fuel : ∀ (k : Nat) (x : Lx), x.Ok l → x.left l ≤ k → blank l (k + 1) x = blank l k x
  | 0, x, hx, h => by
    have he : x.e ≠ 0 := fun he => by simp only [Lx.left, he, if_true] at h; omega
    have e : blank l 1 x = x := by rw [blank, if_neg (fun hh => he hh.2)]
    exact e
  | k + 1, x, hx, h => by
    rw [blank]
    rw [show blank l (k + 1) x = (if x.at_ < l.len ∧ x.e = 0 then (if byteAt l x.at_ = 32 ∨ byteAt l x.at_ = 10 then blank l k (passed l x) else if x.at_ + 1 < l.len ∧ byteAt l x.at_ = 45 ∧ byteAt l (x.at_ + 1) = 45 then blank l k (comm l (l.len + 1) x) else x) else x) from rfl]
    by_cases hc : x.at_ < l.len ∧ x.e = 0
    · rw [if_pos hc, if_pos hc]
      have := passed_left hc.1 hc.2
      by_cases h1 : byteAt l x.at_ = 32 ∨ byteAt l x.at_ = 10
      · rw [if_pos h1, if_pos h1, blank_fuel k (passed l x) (passed_ok hx hc.1) (by omega)]
      · rw [if_neg h1, if_neg h1]
        by_cases h2 : x.at_ + 1 < l.len ∧ byteAt l x.at_ = 45 ∧ byteAt l (x.at_ + 1) = 45
        · have := comm_less (k := l.len) hx hc.1 (by omega) hc.2
          rw [if_pos h2, if_pos h2, blank_fuel k _ (comm_ok _ hx) (by omega)]
        · rw [if_neg h2, if_neg h2]
    · rw [if_neg hc, if_neg hc]
theorem blank_more (k : Nat) {x : Lx} (hx : x.Ok l) (h : x.left l ≤ k) : ∀ d, blank l (k + d) x = blank l k x
  | 0 => rfl
  | d + 1 => by rw [← Nat.add_assoc, blank_fuel (k + d) x hx (by omega), blank_more k hx h d]
theorem till_more {q : Nat → Bool} (k : Nat) {x : Lx} (hx : x.Ok l) (h : x.left l ≤ k) : ∀ d, tillM l q (k + d) x = tillM l q k x
  | 0 => rfl
  | d + 1 => by rw [← Nat.add_assoc, till_fuel (k + d) x hx (by omega), till_more k hx h d]

/-- What a failing pass leaves. -/
theorem passed_same {x : Lx} (he : x.e = 0) (h : (passed l x).e ≠ 0) : (passed l x).at_ = x.at_ := passed_fail he h
/-- The scanner's blank and the reference's. -/
theorem blanks : ∀ (m k k' : Nat) (x : Lx), x.Ok l → x.e = 0 → x.left l ≤ m → x.left l ≤ k → x.left l ≤ k' →
    ((blankL l k x).e = 0 → blank l k' x = blankL l k x) ∧
    ((blankL l k x).e ≠ 0 → ((blank l k' x).e ≠ 0 ∧ (blank l k' x).at_ = (blankL l k x).at_ ∧ (blank l k' x).e = (blankL l k x).e) ∨
      ((blank l k' x).e = 0 ∧ (blank l k' x).at_ < l.len ∧ (lexRun l (blank l k' x)).e = (blankL l k x).e ∧ (lexRun l (blank l k' x)).at_ = (blankL l k x).at_)) := by
  intro m
  induction m with
  | zero =>
    intro k k' x hx he hm
    simp only [Lx.left, he, if_true] at hm
    omega
  | succ m ih =>
    intro k k' x hx he hm hk hk'
    have hleft : 1 ≤ x.left l := by simp only [Lx.left, he, if_true]; omega
    obtain ⟨k, rfl⟩ : ∃ a, k = a + 1 := ⟨k - 1, by omega⟩
    obtain ⟨k', rfl⟩ : ∃ a, k' = a + 1 := ⟨k' - 1, by omega⟩
    rw [blank]
    by_cases hat : x.at_ < l.len
    · rw [if_pos ⟨hat, he⟩]
      have hpl := passed_left hat he
      by_cases h1 : byteAt l x.at_ = 32 ∨ byteAt l x.at_ = 10
      · -- a blank: on
        rw [if_pos h1]
        have hpe : (passed l x).e = 0 := by rw [passed_fine (by rcases h1 with h | h; exact .inl h; exact .inr (.inl h))]; exact he
        have hq : solidQ (byteAt l x.at_) = false := by
          rcases h1 with h | h <;> rw [h] <;> rfl
        have e0 : tillM l solidQ (l.len + 1) x = tillM l solidQ (l.len + 1) (passed l x) := by
          rw [show tillM l solidQ (l.len + 1) x = (if x.at_ < l.len ∧ x.e = 0 then (if (passed l x).e ≠ 0 then passed l x else if solidQ (byteAt l x.at_) then x else tillM l solidQ l.len (passed l x)) else x) from rfl]
          rw [if_pos ⟨hat, he⟩, if_neg (fun hn => hn hpe), hq, if_neg (by simp)]
          have : (passed l x).left l ≤ l.len := by have := left_le (l := l) (x := x); omega
          exact (till_fuel l.len _ (passed_ok hx hat) this).symm
        have e1 : blankL l (k + 1) x = blankL l (k + 1) (passed l x) := by
          rw [blankL, blankL, e0]
        rw [e1]
        exact ih (k + 1) k' (passed l x) (passed_ok hx hat) hpe (by omega) (by omega) (by omega)
      · rw [if_neg h1]
        have hq : solidQ (byteAt l x.at_) = true := by
          simp only [solidQ, solidC]
          rw [decide_eq_false (fun h => h1 (.inl h)), decide_eq_false (fun h => h1 (.inr h))]
          rfl
        have e0 : tillM l solidQ (l.len + 1) x = if (passed l x).e ≠ 0 then passed l x else x := by
          rw [show tillM l solidQ (l.len + 1) x = (if x.at_ < l.len ∧ x.e = 0 then (if (passed l x).e ≠ 0 then passed l x else if solidQ (byteAt l x.at_) then x else tillM l solidQ l.len (passed l x)) else x) from rfl]
          rw [if_pos ⟨hat, he⟩, hq, if_pos rfl]
        by_cases hpe : (passed l x).e = 0
        · rw [if_neg (fun hn => hn hpe)] at e0
          have hd : (x.at_ + 1 < l.len ∧ byteAt l x.at_ = 45 ∧ byteAt l (x.at_ + 1) = 45) ↔ dashAt l x = true := by
            simp only [dashAt, Bool.and_eq_true, decide_eq_true_eq]
          rw [blankL, e0, if_neg (fun hn => hn he)]
          by_cases h2 : dashAt l x = true
          · rw [if_pos (hd.2 h2), if_pos h2, comm_till]
            have hz := tillM_ok (q := lineQ) (l.len + 1) hx
            have hzl := tillM_less (q := lineQ) (k := l.len) hx hat (by rw [(hd.2 h2).2.1]; rfl) he
            revert hz hzl
            generalize tillM l lineQ (l.len + 1) x = z
            intro hz hzl
            by_cases hze : z.e = 0
            · rw [if_neg (fun hn => hn hze)]
              exact ih k k' z hz hze (by omega) (by omega) (by omega)
            · rw [if_pos hze]
              have eb : blank l k' z = z := by
                cases k' with
                | zero => rfl
                | succ k' => rw [blank, if_neg (fun hh => hze hh.2)]
              rw [eb]
              exact ⟨fun h => absurd h hze, fun _ => .inl ⟨hze, rfl, rfl⟩⟩
          · rw [if_neg (fun h => h2 (hd.1 h)), if_neg h2]
            exact ⟨fun _ => rfl, fun h => absurd he h⟩
        · rw [if_pos hpe] at e0
          have n45 : ¬ byteAt l x.at_ = 45 := fun h => hpe (by rw [passed_fine (.inr (.inr (.inr h)))]; exact he)
          have nd : isDelim (byteAt l x.at_) = false := by
            cases hb : isDelim (byteAt l x.at_) with
            | false => rfl
            | true => exact absurd (by rw [passed_fine (.inr (.inr (.inl hb)))]; exact he) hpe
          rw [blankL, e0, if_pos hpe, if_neg (fun h => n45 h.2.1)]
          have er : lexRun l x = passed l x := by
            rw [lexRun, nd, if_neg (by simp), runTo_till]
            rw [show tillM l endsQ (l.len + 1) x = (if x.at_ < l.len ∧ x.e = 0 then (if (passed l x).e ≠ 0 then passed l x else if endsQ (byteAt l x.at_) then x else tillM l endsQ l.len (passed l x)) else x) from rfl]
            rw [if_pos ⟨hat, he⟩, if_pos hpe]
          exact ⟨fun h => absurd h hpe, fun _ => .inr ⟨he, hat, by rw [er], by rw [er]⟩⟩
    · rw [if_neg (fun hh => hat hh.1)]
      have e0 : tillM l solidQ (l.len + 1) x = x := by
        rw [tillM, if_neg (fun hh => hat hh.1)]
      have hd : dashAt l x = false := by
        simp only [dashAt, Bool.and_eq_false_iff, decide_eq_false_iff_not]
        left; omega
      rw [blankL, e0, if_neg (fun hn => hn he), hd, if_neg (by simp)]
      exact ⟨fun _ => rfl, fun h => absurd he h⟩

/-- All tokens, by the scanner's blank. -/
theorem lexAll_bad {k : Nat} {x : Lx} {out : List Tok} (hx : x.Ok l) (he : x.e = 0) (h : (blankL l (l.len + 1) x).e ≠ 0) : lexAll l (k + 1) x out = ([], (blankL l (l.len + 1) x).at_, (blankL l (l.len + 1) x).e) := by
  obtain ⟨_, hb⟩ := blanks (l := l) (l.len + 1) (l.len + 1) (l.len + 1) x hx he left_le left_le left_le
  rw [lexAll]
  rcases hb h with ⟨h1, h2, h3⟩ | ⟨h1, h2, h3, h4⟩
  · rw [if_neg h1, h2, h3]
  · rw [if_pos h1]
    have : lexStep l (blank l (l.len + 1) x) = .inl ((lexRun l (blank l (l.len + 1) x)).at_, (lexRun l (blank l (l.len + 1) x)).e) := by
      rw [lexStep, if_pos h2, if_neg (by rw [h3]; exact h)]
    rw [this, h3, h4]
theorem lexAll_ok {k : Nat} {x : Lx} (hx : x.Ok l) (he : x.e = 0) (h : (blankL l (l.len + 1) x).e = 0) : blank l (l.len + 1) x = blankL l (l.len + 1) x :=
  (blanks (l := l) (l.len + 1) (l.len + 1) (l.len + 1) x hx he left_le left_le left_le).1 h
end
end Dt
