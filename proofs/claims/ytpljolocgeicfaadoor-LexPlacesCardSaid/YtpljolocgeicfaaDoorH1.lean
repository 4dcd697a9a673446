/- A part of the abstract machine and of the proof that the program does what it reckons; no conditions. -/
import Derived.Test.YtpljolocgeicfaaDoorG1
namespace Dt
open Go
set_option linter.all false
set_option maxRecDepth 100000
/-! ### Plain laws for LexPlaces -/
theorem pass_rune {l : Tx} {x : Lx} {n : Nat} (hr : rune l x.at_ = n) (hn : n ≠ 0) (hb : 128 ≤ byteAt l x.at_) : passed l x = ⟨x.at_ + n, x.line, x.col + 1, x.e⟩ := by
  unfold passed
  rw [hr, if_neg hn, if_neg (by omega), if_neg (by omega)]
abbrev placesL (a b : Nat) (ws : List UInt8) : List UInt8 := List.replicate a 10 ++ List.replicate b 32 ++ ws ++ [32, 120]
abbrev places (a b : Nat) (ws : List UInt8) : Tx := txOf (placesL a b ws)
section
variable {a b : Nat} {ws : List UInt8}
theorem pl_len : (places a b ws).len = a + b + ws.length + 2 := by
  show (placesL a b ws).length = _
  simp only [List.length_append, List.length_replicate, List.length_cons, List.length_nil]
theorem pl_lines {i : Nat} (h : i < a) : byteAt (places a b ws) i = 10 := by
  refine tx_get (v := 10) ?_
  unfold placesL
  rw [List.append_assoc, List.append_assoc, List.getElem?_append_left (by rw [List.length_replicate]; exact h), List.getElem?_replicate, if_pos h]
theorem pl_blanks {i : Nat} (h : i < b) : byteAt (places a b ws) (a + i) = 32 := by
  refine tx_get (v := 32) ?_
  unfold placesL
  rw [List.append_assoc, List.append_assoc, List.getElem?_append_right (by rw [List.length_replicate]; omega), List.length_replicate, List.getElem?_append_left (by rw [List.length_replicate]; omega), List.getElem?_replicate, if_pos (by omega)]
theorem pl_word {i : Nat} {v : UInt8} (h : ws[i]? = some v) : byteAt (places a b ws) (a + b + i) = v.toNat := by
  refine tx_get ?_
  have hi := (List.getElem?_eq_some_iff.1 h).1
  rw [List.getElem?_append_left (by simp only [List.length_append, List.length_replicate]; omega), List.getElem?_append_right (by simp only [List.length_append, List.length_replicate]; omega)]
  simp only [List.length_append, List.length_replicate]
  rw [show a + b + i - (a + b) = i by omega]
  exact h
theorem pl_blank : byteAt (places a b ws) (a + b + ws.length) = 32 := by
  refine tx_get (v := 32) ?_
  rw [List.getElem?_append_right (by simp only [List.length_append, List.length_replicate]; omega)]
  simp only [List.length_append, List.length_replicate]
  rw [show a + b + ws.length - (a + b + ws.length) = 0 by omega]
  rfl
theorem pl_x : byteAt (places a b ws) (a + b + ws.length + 1) = 120 := by
  refine tx_get (v := 120) ?_
  rw [List.getElem?_append_right (by simp only [List.length_append, List.length_replicate]; omega)]
  simp only [List.length_append, List.length_replicate]
  rw [show a + b + ws.length + 1 - (a + b + ws.length) = 1 by omega]
  rfl
/-- What lex.Tokens tells of such a text. -/
theorem told_places (h9 : ws.length ≤ 9) (h0 : 0 < ws.length) (hw : ∀ i v, ws[i]? = some v → v.toNat ≠ 46 ∧ (i = 0 → v.toNat ≠ 32 ∧ v.toNat ≠ 10 ∧ v.toNat ≠ 45 ∧ isDelim v.toNat = false))
    (hab : a + b ≤ 1000) (hrun : runTo (places a b ws) ((places a b ws).len + 1) ⟨a + b, 1 + a, 1 + b, 0⟩ = ⟨a + b + ws.length, 1 + a, 1 + b + 2, 0⟩) :
    ∃ t1 t2 t3 : Tok, tokensOf (places a b ws) = ([t1, t2, t3], 0, 0) ∧ t1.at_ = a + b ∧ t1.line = a + 1 ∧ t1.col = b + 1 ∧ t2.at_ = a + b + ws.length + 1 ∧ t2.line = a + 1 ∧ t2.col = b + 4 ∧ t3.col = b + 5 := by
  have hl := pl_len (a := a) (b := b) (ws := ws)
  unfold tokensOf
  rw [if_neg (by omega)]
  obtain ⟨v0, hv0⟩ : ∃ v, ws[0]? = some v := ⟨_, List.getElem?_eq_getElem h0⟩
  have b0 := pl_word (a := a) (b := b) hv0
  rw [Nat.add_zero] at b0
  obtain ⟨-, n0⟩ := hw 0 v0 hv0
  obtain ⟨n1, n2, n3, n4⟩ := n0 rfl
  rw [← b0] at n1 n2 n3 n4
  have h1 : blank (places a b ws) ((places a b ws).len + 1) ⟨0, 1, 1, 0⟩ = ⟨a + b, 1 + a, 1 + b, 0⟩ := by
    rw [show (places a b ws).len + 1 = (3 + ws.length + b) + a by rw [hl]; omega]
    rw [blank_lines _ a 0 1 (fun i hi => by rw [Nat.zero_add]; exact pl_lines hi) (by omega), Nat.zero_add]
    rw [blank_spaces _ b a (1 + a) 1 (fun i hi => pl_blanks hi) (by omega)]
    exact blank_stop (Or.inr ⟨n1, n2, n3⟩)
  have h3 : lexRun (places a b ws) ⟨a + b, 1 + a, 1 + b, 0⟩ = ⟨a + b + ws.length, 1 + a, 1 + b + 2, 0⟩ := by
    unfold lexRun
    rw [show isDelim (byteAt (places a b ws) (Lx.at_ ⟨a + b, 1 + a, 1 + b, 0⟩)) = false from n4, if_neg (by simp)]
    exact hrun
  obtain ⟨t1, k1, k2, k3, k4, k5⟩ : ∃ t : Tok, lexTok (places a b ws) ⟨a + b, 1 + a, 1 + b, 0⟩ ⟨a + b + ws.length, 1 + a, 1 + b + 2, 0⟩ = (t, 0) ∧ t.at_ = a + b ∧ t.line = 1 + a ∧ t.col = 1 + b ∧ t.kind ≠ 7 := by
    unfold lexTok
    rw [show isDelim (byteAt (places a b ws) (Lx.at_ ⟨a + b, 1 + a, 1 + b, 0⟩)) = false from n4, if_neg (by simp)]
    have hk := kind_fine (t := ⟨7, (cutOf (places a b ws) (a + b) (a + b + ws.length)).len, (cutOf (places a b ws) (a + b) (a + b + ws.length)).code, a + b, 1 + a, 1 + b⟩) (w := cutOf (places a b ws) (a + b) (a + b + ws.length)) (by show a + b + ws.length - (a + b) ≤ 9; omega)
      (fun i hi => by
        have hi' : i < a + b + ws.length - (a + b) := hi
        rw [cut_byte hi']
        obtain ⟨v, hv⟩ : ∃ v, ws[i]? = some v := ⟨_, List.getElem?_eq_getElem (by omega)⟩
        rw [pl_word hv]
        exact (hw i v hv).1)
    rcases hk with ⟨q1, q2, q3, q4, q5⟩ | hk
    · exact ⟨_, Prod.ext rfl q1, q2, q3, q4, q5⟩
    · cases hk
  rw [round_tok (k := 20000) h1 rfl (by show a + b < (places a b ws).len; omega) h3 rfl k1 k5 (by simp)]
  have g1 : blank (places a b ws) ((places a b ws).len + 1) ⟨a + b + ws.length, 1 + a, 1 + b + 2, 0⟩ = ⟨a + b + ws.length + 1, 1 + a, 1 + b + 2 + 1, 0⟩ := by
    rw [blank_spaces _ 1 (a + b + ws.length) (1 + a) (1 + b + 2) (fun i hi => by obtain rfl : i = 0 := (by omega); exact pl_blank) (by omega)]
    have hx := pl_x (a := a) (b := b) (ws := ws)
    exact blank_stop (Or.inr ⟨by show byteAt (places a b ws) (a + b + ws.length + 1) ≠ 32; omega, by show byteAt (places a b ws) (a + b + ws.length + 1) ≠ 10; omega, by show byteAt (places a b ws) (a + b + ws.length + 1) ≠ 45; omega⟩)
  have hxd : isDelim (byteAt (places a b ws) (a + b + ws.length + 1)) = false := by rw [pl_x]; rfl
  have g3 : lexRun (places a b ws) ⟨a + b + ws.length + 1, 1 + a, 1 + b + 2 + 1, 0⟩ = ⟨a + b + ws.length + 2, 1 + a, 1 + b + 2 + 1 + 1, 0⟩ := by
    unfold lexRun
    rw [show isDelim (byteAt (places a b ws) (Lx.at_ ⟨a + b + ws.length + 1, 1 + a, 1 + b + 2 + 1, 0⟩)) = false from hxd, if_neg (by simp)]
    rw [run_word _ 1 (a + b + ws.length + 1) (1 + a) (1 + b + 2 + 1) (fun i hi => by obtain rfl : i = 0 := (by omega); rw [Nat.add_zero]; exact ⟨by rw [pl_x]; omega, by rw [pl_x]; omega, hxd⟩) (by omega)]
    exact run_stop (Or.inl (by show (places a b ws).len ≤ a + b + ws.length + 1 + 1; omega))
  obtain ⟨t2, m1, m2, m3, m4, m5⟩ : ∃ t : Tok, lexTok (places a b ws) ⟨a + b + ws.length + 1, 1 + a, 1 + b + 2 + 1, 0⟩ ⟨a + b + ws.length + 2, 1 + a, 1 + b + 2 + 1 + 1, 0⟩ = (t, 0) ∧ t.at_ = a + b + ws.length + 1 ∧ t.line = 1 + a ∧ t.col = 1 + b + 2 + 1 ∧ t.kind ≠ 7 := by
    unfold lexTok
    rw [show isDelim (byteAt (places a b ws) (Lx.at_ ⟨a + b + ws.length + 1, 1 + a, 1 + b + 2 + 1, 0⟩)) = false from hxd, if_neg (by simp)]
    have hk := kind_fine (t := ⟨7, (cutOf (places a b ws) (a + b + ws.length + 1) (a + b + ws.length + 2)).len, (cutOf (places a b ws) (a + b + ws.length + 1) (a + b + ws.length + 2)).code, a + b + ws.length + 1, 1 + a, 1 + b + 2 + 1⟩) (w := cutOf (places a b ws) (a + b + ws.length + 1) (a + b + ws.length + 2)) (by show a + b + ws.length + 2 - (a + b + ws.length + 1) ≤ 9; omega)
      (fun i hi => by
        have hi' : i < a + b + ws.length + 2 - (a + b + ws.length + 1) := hi
        rw [cut_byte hi', show i = 0 by omega, Nat.add_zero, pl_x]
        omega)
    rcases hk with ⟨q1, q2, q3, q4, q5⟩ | hk
    · exact ⟨_, Prod.ext rfl q1, q2, q3, q4, q5⟩
    · cases hk
  rw [round_tok (k := 19999) g1 rfl (by show a + b + ws.length + 1 < (places a b ws).len; omega) g3 rfl m1 m5 (by simp)]
  rw [round_end (k := 19998) (blank_stop (Or.inl (by show (places a b ws).len ≤ a + b + ws.length + 2; omega))) rfl (by show (places a b ws).len ≤ a + b + ws.length + 2; omega), if_neg (by simp)]
  exact ⟨t1, t2, _, rfl, k2, by omega, by omega, m2, by omega, by omega, by show 1 + b + 2 + 1 + 1 = _; omega⟩
theorem run_ab : runTo (places a b [97, 98]) ((places a b [97, 98]).len + 1) ⟨a + b, 1 + a, 1 + b, 0⟩ = ⟨a + b + 2, 1 + a, 1 + b + 2, 0⟩ := by
  have hl := pl_len (a := a) (b := b) (ws := [97, 98])
  have hl' : (places a b [97, 98]).len = a + b + 2 + 2 := hl
  rw [show (places a b [97, 98]).len + 1 = (a + b + 3) + 2 by omega]
  rw [run_word _ 2 (a + b) (1 + a) (1 + b) (fun i hi => by
    match i, hi with
    | 0, _ => rw [pl_word (v := 97) rfl]; exact ⟨by decide, by decide, by decide⟩
    | 1, _ => rw [pl_word (v := 98) rfl]; exact ⟨by decide, by decide, by decide⟩) (by omega)]
  exact run_stop (Or.inr (Or.inl pl_blank))
theorem run_wide : runTo (places a b [195, 169, 228, 184, 173]) ((places a b [195, 169, 228, 184, 173]).len + 1) ⟨a + b, 1 + a, 1 + b, 0⟩ = ⟨a + b + 5, 1 + a, 1 + b + 2, 0⟩ := by
  have hl := pl_len (a := a) (b := b) (ws := [195, 169, 228, 184, 173])
  have hl' : (places a b [195, 169, 228, 184, 173]).len = a + b + 5 + 2 := hl
  have c0 : byteAt (places a b [195, 169, 228, 184, 173]) (a + b) = 195 := pl_word (i := 0) (v := 195) rfl
  have c1 : byteAt (places a b [195, 169, 228, 184, 173]) (a + b + 1) = 169 := pl_word (i := 1) (v := 169) rfl
  have c2 : byteAt (places a b [195, 169, 228, 184, 173]) (a + b + 2) = 228 := pl_word (i := 2) (v := 228) rfl
  have c3 : byteAt (places a b [195, 169, 228, 184, 173]) (a + b + 2 + 1) = 184 := pl_word (i := 3) (v := 184) rfl
  have c4 : byteAt (places a b [195, 169, 228, 184, 173]) (a + b + 2 + 1 + 1) = 173 := pl_word (i := 4) (v := 173) rfl
  have r0 : rune (places a b [195, 169, 228, 184, 173]) (a + b) = 2 := by
    unfold rune
    rw [c0, if_neg (by omega), if_pos (by omega)]
    unfold tailR
    rw [if_neg (by omega)]
    show endR 2 128 (contR _ (a + b + 1) 1 _) = 2
    rw [contR, c1, if_neg (by omega)]
    rfl
  have r2 : rune (places a b [195, 169, 228, 184, 173]) (a + b + 2) = 3 := by
    unfold rune
    rw [c2, if_neg (by omega), if_neg (by omega), if_pos (by omega)]
    unfold tailR
    rw [if_neg (by omega)]
    show endR 3 2048 (contR _ (a + b + 2 + 1) 2 _) = 3
    rw [contR, c3, if_neg (by omega), contR, c4, if_neg (by omega)]
    rfl
  rw [show (places a b [195, 169, 228, 184, 173]).len + 1 = (a + b + 6) + 1 + 1 by omega]
  rw [runTo, if_pos ⟨by show a + b < _; omega, by show byteAt _ (a + b) ≠ 32; omega, by show byteAt _ (a + b) ≠ 10; omega, by show isDelim (byteAt _ (a + b)) = false; rw [c0]; rfl, rfl⟩, pass_rune r0 (by omega) (by show 128 ≤ byteAt _ (a + b); omega)]
  rw [runTo, if_pos ⟨by show a + b + 2 < _; omega, by show byteAt _ (a + b + 2) ≠ 32; omega, by show byteAt _ (a + b + 2) ≠ 10; omega, by show isDelim (byteAt _ (a + b + 2)) = false; rw [c2]; rfl, rfl⟩, pass_rune r2 (by omega) (by show 128 ≤ byteAt _ (a + b + 2); omega)]
  exact run_stop (Or.inr (Or.inl pl_blank))
theorem told_ab (hab : a + b ≤ 1000) : ∃ t1 t2 t3 : Tok, tokensOf (places a b [97, 98]) = ([t1, t2, t3], 0, 0) ∧ t1.at_ = a + b ∧ t1.line = a + 1 ∧ t1.col = b + 1 ∧ t2.at_ = a + b + 2 + 1 ∧ t2.line = a + 1 ∧ t2.col = b + 4 ∧ t3.col = b + 5 :=
  told_places (by decide) (by decide) (fun i v hv => by
    match i, hv with
    | 0, hv => cases hv; exact ⟨by decide, fun _ => ⟨by decide, by decide, by decide, by decide⟩⟩
    | 1, hv => cases hv; exact ⟨by decide, fun h => by cases h⟩
    | i + 2, hv => cases hv) hab run_ab
theorem told_wide (hab : a + b ≤ 1000) : ∃ t1 t2 t3 : Tok, tokensOf (places a b [195, 169, 228, 184, 173]) = ([t1, t2, t3], 0, 0) ∧ t1.at_ = a + b ∧ t1.line = a + 1 ∧ t1.col = b + 1 ∧ t2.at_ = a + b + 5 + 1 ∧ t2.line = a + 1 ∧ t2.col = b + 4 ∧ t3.col = b + 5 :=
  told_places (by decide) (by decide) (fun i v hv => by
    match i, hv with
    | 0, hv => cases hv; exact ⟨by decide, fun _ => ⟨by decide, by decide, by decide, by decide⟩⟩
    | 1, hv => cases hv; exact ⟨by decide, fun h => by cases h⟩
    | 2, hv => cases hv; exact ⟨by decide, fun h => by cases h⟩
    | 3, hv => cases hv; exact ⟨by decide, fun h => by cases h⟩
    | 4, hv => cases hv; exact ⟨by decide, fun h => by cases h⟩
    | i + 5, hv => cases hv) hab run_wide
end
end Dt
