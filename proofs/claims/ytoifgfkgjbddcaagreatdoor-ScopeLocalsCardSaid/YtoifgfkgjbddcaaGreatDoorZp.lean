/- A part of the abstract machine and of the proof that the program does what it reckons; no conditions. -/
import Derived.Test.YtoifgfkgjbddcaaGreatDoorDo
import Derived.Test.YtoifgfkgjbddcaaGreatDoorZt
set_option linter.all false
namespace Dt
open Go
set_option linter.all false
variable [LoopTab]
/-! ### Two codes for one append -/
theorem Tr.set_set : ∀ (f : Nat) (t : Tr) (k : Nat) (x y : Blk), Tr.set f (Tr.set f t k x) k y = Tr.set f t k y
  | 0, _, _, _, _ => rfl
  | f + 1, .nil, 0, _, _ => rfl
  | f + 1, .nil, k + 1, x, y => by
    rcases Nat.mod_two_eq_zero_or_one k with e | e
    · simp only [Tr.set, e]
      rw [Tr.set_set f]
    · simp only [Tr.set, e]
      rw [Tr.set_set f]
  | f + 1, .node l v r, 0, _, _ => rfl
  | f + 1, .node l v r, k + 1, x, y => by
    rcases Nat.mod_two_eq_zero_or_one k with e | e
    · simp only [Tr.set, e]
      rw [Tr.set_set f]
    · simp only [Tr.set, e]
      rw [Tr.set_set f]
theorem Heap.put_put (H : Heap) (b : Nat) (x y : Blk) : (H.put b x).put b y = H.put b y := by
  unfold Heap.put
  simp only [Tr.set_set]

section pairs
variable {R : Type} {A : Alg R} {call : Nat → List AVal → Heap → (AVal → Heap → R) → R}

theorem rowsOf_add {H : Heap} {B B' : Blk} {z b r n : Nat} {cap : Option Nat} {z' : Nat} (hb : b ≠ H.next) : rowsOf (H.add B) z (.slc b r n cap z') = rowsOf (H.add B') z (.slc b r n cap z') := by
  simp only [rowsOf, Heap.get_add _ _ _ trivial, if_neg hb]
theorem rowsOf_len {H : Heap} {z b r n : Nat} {cap : Option Nat} {z' : Nat} {rows : List (List AVal)} (h : rowsOf H z (.slc b r n cap z') = some rows) : rows.length = n := by
  simp only [rowsOf] at h
  split at h
  · cases h
  · split at h
    · simp at h; subst h; rfl
    · split at h
      · exact (rtake_eq _ _ _ _ h).2
      · exact (rtake_eq _ _ _ _ h).2
      · cases h
theorem rsplice_one {l : List (List AVal)} {i : Nat} (hi : i < l.length) (x y : List AVal) : (rsplice l i [x])[i]? = some x ∧ (rsplice l i [x]).set i y = rsplice l i [y] := by
  constructor
  · rw [rsplice_get, if_pos ⟨Nat.le_refl _, by simp, hi⟩]
    simp
  · apply List.ext_getElem?
    intro j
    rw [List.getElem?_set, rsplice_get, rsplice_get, rsplice_length]
    by_cases hj : i = j
    · subst hj
      rw [if_pos rfl, if_pos hi, if_pos ⟨Nat.le_refl _, by simp, hi⟩]
      simp
    · rw [if_neg hj, if_neg (by simp; omega), if_neg (by simp; omega)]

/-- How long a slice is. -/
def lenA : AVal → Option Nat
  | .nils => some 0
  | .slc _ _ n _ _ => some n
  | _ => none

def AppForm (A : Alg R) (K1 : AVal → Heap → R) (H : Heap) (z bytes : Nat) (X : AVal) (cs : List AVal) (c : Nat) (zero : List AVal) : Prop :=
    ∃ (E : Heap) (bZ rZ n : Nat) (capZ : Option Nat) (zz : Nat) (L L0 : List (List AVal)),
      bZ ≠ H.next ∧ bZ ≠ c ∧ E.get c = H.get c ∧ lenA X = some n ∧
      A.holds (K1 (.slc bZ rZ (n + 1) capZ z) ((E.put H.next (.rows z [cs])).put bZ (.rows zz L))) ∧
      (∀ K2 : AVal → Heap → Prop, K2 (.slc bZ rZ (n + 1) capZ z) ((E.put H.next (.rows z [zero])).put bZ (.rows zz L0)) → doAppend AP z bytes X (.slc H.next 0 1 (some 1) z) (H.add (.rows z [zero])) K2) ∧
      L0[rZ + n]? = some zero ∧ L0.set (rZ + n) cs = L
theorem app_two {K1 : AVal → Heap → R} {H : Heap} {z bytes : Nat} {X : AVal} {cs : List AVal} {c : Nat}
    (hX : ∀ b r n cap z', X = .slc b r n cap z' → b ≠ c ∧ b < H.next) (hc : c < H.next) (zero : List AVal)
    (h : A.holds (doAppend A z bytes X (.slc H.next 0 1 (some 1) z) (H.add (.rows z [cs])) K1)) :
    AppForm A K1 H z bytes X cs c zero := by
  have hY : ∀ row : List AVal, rowsOf (H.add (.rows z [row])) z (.slc H.next 0 1 (some 1) z) = some [row] := fun row => by
    have : Nat.beq z z = true := by rw [Nat.beq_eq]
    simp only [rowsOf, this, Heap.get_add _ _ _ trivial, if_true, rtake]
  unfold doAppend at h
  rw [hY] at h
  simp only at h
  cases X <;> try exact (A.fail_no h).elim
  case nils =>
    simp only [fL_eq, fN_eq] at h
    split at h
    · exact (A.fail_no h).elim
    · rename_i hb
      obtain ⟨_, h⟩ := hAdd_holds h
      refine ⟨⟨H.next + 1 + 1, H.tr, H.gl⟩, H.next + 1, 0, 0, none, z, [cs], [zero], by omega, by omega, rfl, rfl, h, fun K2 hk => ?_, rfl, rfl⟩
      unfold doAppend
      rw [hY]
      simp only [fL_eq, fN_eq]
      have hb' : Nat.ble (Nat.mul (rlen [zero]) bytes) 1000000000 = true := hb
      rw [hb']
      simp only [hAdd_eq]
      exact hk
  case slc b r n cap z' =>
    obtain ⟨hbc, hbn⟩ := hX b r n cap z' rfl
    have hbN : b ≠ H.next := by omega
    simp only at h
    split at h
    · exact (A.fail_no h).elim
    rename_i hzz
    have hzb := hzz
    simp only [Bool.and_eq_true] at hzb
    have hz' : z' = z := by simpa using hzb.1
    subst hz'
    split at h
    · exact (A.fail_no h).elim
    rename_i old hold
    have hold' : rowsOf (H.add (.rows z' [zero])) z' (.slc b r n cap z') = some old := by rw [← hold]; exact rowsOf_add hbN
    have hlen := rowsOf_len hold
    have hget : ∀ row : List AVal, (H.add (.rows z' [row])).get b = H.get b := fun row => by rw [Heap.get_add _ _ _ trivial, if_neg hbN]
    have hr1 : ∀ row : List AVal, rlen [row] = 1 := fun _ => rfl
    have start : ∀ (K2 : AVal → Heap → Prop) (Q : Prop), ((match cap with
          | some c => match Nat.ble (n + 1) c with
            | true => match H.get b with
                | .rows z'' l => match Nat.ble (r + (n + 1)) (rlen l) with
                  | true => K2 (.slc b r (n + 1) cap z') ((H.add (.rows z' [zero])).put b (.rows z'' (rsplice l (r + n) [zero])))
                  | false => False
                | _ => False
            | false => K2 (.slc (H.next + 1) 0 (rlen (old ++ [zero])) none z') ((H.add (.rows z' [zero])).add (.rows z' (old ++ [zero])))
          | none => match H.get b with
              | .rows z'' l => match Nat.ble (r + (n + 1)) (rlen l) with
                | true => K2 (.slc b r (n + 1) none z') ((H.add (.rows z' [zero])).put b (.rows z'' (rsplice l (r + n) [zero])))
                | false => K2 (.slc (H.next + 1) 0 (rlen (old ++ [zero])) none z') (((H.add (.rows z' [zero])).put b .dead).add (.rows z' (old ++ [zero])))
              | _ => False)) → doAppend AP z' bytes (.slc b r n cap z') (.slc H.next 0 1 (some 1) z') (H.add (.rows z' [zero])) K2 := by
      intro K2 Q hk
      unfold doAppend
      rw [hY]
      simp only
      have hzz2 : (Nat.beq z' z' && Nat.ble (Nat.mul (n + rlen [zero]) bytes) 1000000000) = true := hzz
      rw [hzz2, hold']
      simp only [fL_eq, fN_eq, hAdd_eq, hPut_eq, hget, hr1, Heap.next_put, Heap.next_add]
      cases cap with
      | none => exact hk
      | some c => exact hk
    have inplace : ∀ (z'' : Nat) (l : List (List AVal)) (capZ : Option Nat), Nat.ble (r + (n + 1)) (rlen l) = true →
        A.holds (K1 (.slc b r (n + 1) capZ z') ((H.add (.rows z' [cs])).put b (.rows z'' (rsplice l (r + n) [cs])))) →
        (∀ K2 : AVal → Heap → Prop, K2 (.slc b r (n + 1) capZ z') ((H.add (.rows z' [zero])).put b (.rows z'' (rsplice l (r + n) [zero]))) → doAppend AP z' bytes (.slc b r n cap z') (.slc H.next 0 1 (some 1) z') (H.add (.rows z' [zero])) K2) → AppForm A K1 H z' bytes (.slc b r n cap z') cs c zero := fun z'' l capZ hle hk hk2 => by
      have hlt : r + n < l.length := by
        have := Nat.le_of_ble_eq_true hle
        rw [rlen_eq] at this
        omega
      exact ⟨⟨H.next + 1, H.tr, H.gl⟩, b, r, n, capZ, z'', _, rsplice l (r + n) [zero], hbN, hbc, rfl, rfl, hk, hk2, (rsplice_one hlt zero cs).1, (rsplice_one hlt zero cs).2⟩
    have oldz : (old ++ [zero])[0 + n]? = some zero ∧ (old ++ [zero]).set (0 + n) cs = old ++ [cs] := by
      rw [Nat.zero_add, ← hlen]
      simp
    cases cap with
    | some cp =>
      simp only [fL_eq, fN_eq, hget, hr1] at h
      split at h
      · rename_i hfit
        cases hg : H.get b <;> rw [hg] at h <;> try exact (A.fail_no h).elim
        rename_i z'' l
        simp only at h
        split at h
        · rename_i hle
          obtain ⟨_, h⟩ := hPut_holds h
          exact inplace z'' l (some cp) hle h fun K2 hk => start K2 True (by simp only [hfit, hg, hle]; exact hk)
        · exact (A.fail_no h).elim
      · rename_i hfit
        obtain ⟨_, h⟩ := hAdd_holds h
        have hl2 : ∀ row : List AVal, rlen (old ++ [row]) = n + 1 := fun row => by rw [rlen_eq]; simp [hlen]
        rw [hl2] at h
        refine ⟨⟨H.next + 1 + 1, H.tr, H.gl⟩, H.next + 1, 0, n, none, z', _, old ++ [zero], by omega, by omega, rfl, rfl, h, fun K2 hk => start K2 True ?_, oldz.1, oldz.2⟩
        simp only [hfit, hl2]
        exact hk
    | none =>
      simp only [fL_eq, fN_eq, hget, hr1] at h
      cases hg : H.get b <;> rw [hg] at h <;> try exact (A.fail_no h).elim
      rename_i z'' l
      simp only at h
      split at h
      · rename_i hle
        obtain ⟨_, h⟩ := hPut_holds h
        exact inplace z'' l none hle h fun K2 hk => start K2 True (by simp only [hg, hle]; exact hk)
      · rename_i hle
        obtain ⟨_, h⟩ := hPut_holds h
        obtain ⟨_, h⟩ := hAdd_holds h
        have hl2 : ∀ row : List AVal, rlen (old ++ [row]) = n + 1 := fun row => by rw [rlen_eq]; simp [hlen]
        rw [hl2] at h
        have hsw : ∀ row : List AVal, (H.add (.rows z' [row])).put b .dead = ((⟨H.next + 1, H.tr, H.gl⟩ : Heap).put b .dead).put H.next (.rows z' [row]) := fun row =>
          Heap.put_comm ⟨H.next + 1, H.tr, H.gl⟩ _ _ hbN
        rw [hsw] at h
        refine ⟨⟨H.next + 1 + 1, ((⟨H.next + 1, H.tr, H.gl⟩ : Heap).put b .dead).tr, H.gl⟩, H.next + 1, 0, n, none, z', _, old ++ [zero], by omega, by omega, ?_, rfl, h, fun K2 hk => start K2 True ?_, oldz.1, oldz.2⟩
        · show ((⟨H.next + 1, H.tr, H.gl⟩ : Heap).put b .dead).get c = H.get c
          rw [Heap.get_put _ _ _ _ trivial, if_neg (Ne.symm hbc)]
          rfl
        · simp only [hg, hle, hl2, hsw]
          exact hk

theorem quiet_holds {di : DI} (hd : cold di = true ∨ warm di = true) {vs ts : List AVal} {H : Heap} {K : AVal → Heap → R} (h : A.holds (evI A call di vs ts H K)) : ∃ x, evQ di vs ts H = some x ∧ A.holds (K x H) := by
  rw [evI_quiet hd] at h
  split at h
  · exact ⟨_, by assumption, h⟩
  · exact (A.fail_no h).elim
theorem quiet_give {di : DI} (hd : cold di = true ∨ warm di = true) {vs ts : List AVal} {H : Heap} {K : AVal → Heap → Prop} {x : AVal} (e : evQ di vs ts H = some x) (h : K x H) : evI AP noCall di vs ts H K := by
  rw [evI_quiet hd, e]
  exact h
theorem again1_holds {x y : Opd} {vs ts : List AVal} {H : Heap} {K : AVal → Heap → R} (h : A.holds (evI A call (.again1 x y) vs ts H K)) : A.holds (K (.tup []) H) := by
  simp only [evI] at h
  repeat' (first | exact (A.fail_no h).elim | exact h | split at h)
theorem doStore_give {n b r c : Nat} {V : AVal} {cs : List AVal} {H : Heap} {z : Nat} {l : List (List AVal)} {row : List AVal} {K : Heap → Prop} (h1 : V.cells = some cs) (h2 : H.get b = .rows z l) (h3 : l[r]? = some row) (h4 : (Nat.beq (llen cs) n && Nat.ble (c + n) (llen row)) = true)
    (h : K (H.put b (.rows z (rset l r (splice row c cs))))) : doStore AP n (.ptr b r c) V H K := by
  unfold doStore
  simp only [h1, h2, rget_eq, h3, h4, fL_eq, hPut_eq]
  exact h

/-- The end of the two codes: what the one makes of memory, the other makes of it too. -/
theorem same_heap (E : Heap) {n b c : Nat} (R0 R1 L0 L1 F D : Blk) (hnb : b ≠ n) (hnc : n ≠ c) (hbc : b ≠ c) :
    (((((E.put n R0).put b L0).put c F).put n D).put b L1) = ((((E.put n R1).put b L1).put c F).put n D) := by
  rw [Heap.put_comm _ L1 D hnb, Heap.put_comm _ L1 F hbc, Heap.put_put]
  have key : ∀ R : Blk, ((((E.put n R).put b L1).put c F).put n D) = (((E.put n D).put b L1).put c F) := fun R => by
    rw [Heap.put_comm _ D F hnc, Heap.put_comm _ D L1 (Ne.symm hnb), Heap.put_put]
  rw [key, key]
theorem splice_all : ∀ (row cs : List AVal), cs.length = row.length → splice row 0 cs = cs
  | [], [], _ => rfl
  | _ :: l, _ :: m, h => by simp only [splice]; rw [splice_all l m (by simpa using h)]
  | [], _ :: _, h => by simp at h
  | _ :: _, [], h => by simp at h
end pairs
end Dt
