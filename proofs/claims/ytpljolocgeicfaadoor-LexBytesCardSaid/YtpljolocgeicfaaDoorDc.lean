/- A part of the abstract machine and of the proof that the program does what it reckons; no conditions. -/
import Derived.Test.YtpljolocgeicfaaDoorDb
namespace Dt
open Go Go.RowKit
theorem heap_setRow_other (w : World) (g : Nat) (cs : Array Value) (k : Nat) (h : k ≠ g) : (w.setRow g cs).heap[k]? = w.heap[k]? := by
  unfold World.setRow
  rw [Array.getElem?_modify]
  rw [if_neg (fun e => h e.symm)]

/-- Cells of a block are stored to. -/
theorem Step.put {ρ : Env} {H : Heap} {w : World} (h : HRel ρ H w) (b : Nat) (R : RB) (e : ρ b = some R) (hm : True) (z : Nat) (l l' : List (List AVal)) (hb : H.get b = .rows z l)
    (c c' : Array Value) (et : TypeId) (hc : w.heap[R.blk]? = some (.cells c et (0, 0))) (hs : c'.size = c.size) (hl : l'.length = l.length) (hz : ∀ row ∈ l', row.length = z)
    (hr : ∀ (r : Nat) (row : List AVal), l'[r]? = some row → ∀ (j : Nat) (x : AVal), row[j]? = some x → ∃ v, c'[R.off + r * R.esz + j]? = some v ∧ v.oneCell' = true ∧ VRel ρ x v) :
    Step ρ H w ρ (H.put b (.rows z l')) (w.setRow R.blk c') := by
  have hBR := h.blk b R e
  rw [hb] at hBR
  obtain ⟨h1, h2, h3, h4, c0, et0, h5, h6, h7⟩ := hBR
  rw [hc] at h5
  simp only [Option.some.injEq, Obj.cells.injEq, and_true] at h5
  obtain ⟨rfl, rfl⟩ := h5
  have hg : ∀ x, (H.put b (.rows z l')).get x = if x = b then .rows z l' else H.get x := fun x => Heap.get_put _ _ _ _ hm
  have live : ∀ x, (H.put b (.rows z l')).get x ≠ .dead → H.get x ≠ .dead := fun x hx => by
    rw [hg] at hx
    by_cases hxb : x = b
    · subst hxb; rw [hb]; simp
    · rwa [if_neg hxb] at hx
  have liveW : ∀ x, Wr ((H.put b (.rows z l')).get x) → Wr (H.get x) := fun x hx => by
    rw [hg] at hx
    by_cases hxb : x = b
    · subst hxb; rw [hb]; trivial
    · rwa [if_neg hxb] at hx
  refine ⟨⟨fun x S ex => ?_, fun x y S S' ex ey dx dy hS => h.inj x y S S' ex ey (live _ dx) (live _ dy) hS, fun x S ex => ?_, h.glob.same fun g hgl => heap_setRow_other _ _ _ _ fun he => Nat.lt_irrefl _ (he ▸ Nat.lt_of_lt_of_le hgl (h.high b R e (by rw [hb]; trivial))), fun x S ex hw => h.high x S ex (liveW _ hw)⟩, fun _ _ ex => ex, by simp, rfl, rfl, rfl, fun r _ hn => ?_, fun x S ex hd => .inr ⟨x, S, ex, liveW _ hd, rfl⟩⟩
  · rw [hg]
    by_cases hxb : x = b
    · subst hxb
      rw [e] at ex
      obtain rfl : R = S := by simpa using ex
      rw [if_pos rfl]
      exact ⟨h1, by rw [h2, hl], h3, hz, c', et, setRow_heap w R.blk c c' et (0, 0) hc, by rw [hs, h6], hr⟩
    · rw [if_neg hxb]
      by_cases hd : H.get x = .dead
      · rw [hd]; trivial
      · refine (h.blk x S ex).same (heap_setRow_other _ _ _ _ fun he => hxb ?_)
        exact h.inj x b S R ex e hd (by rw [hb]; simp) he
  · exact ⟨(h.dom _ _ ex).1, by simpa using (h.dom _ _ ex).2⟩
  · exact heap_setRow_other _ _ _ _ fun he => hn b R e (by rw [hb]; trivial) he.symm

/-- A world with another object in a place. -/
def putO (w : World) (r : Nat) (o : Obj) : World := { w with heap := w.heap.setIfInBounds r o }
/-- An object is put in another's place. -/
theorem Step.putObj {ρ : Env} {H : Heap} {w : World} (h : HRel ρ H w) (b : Nat) (R : RB) (e : ρ b = some R) (y : OB) (hb : H.get b = .obj y) (x : OB) (o : Obj) (ho : ObRel ρ o x) :
    Step ρ H w ρ (H.put b (.obj x)) (putO w R.blk o) := by
  have hsize : (putO w R.blk o).heap.size = w.heap.size := by simp [putO]
  have other : ∀ k, k ≠ R.blk → (putO w R.blk o).heap[k]? = w.heap[k]? := fun k hk => by
    unfold putO
    simp only
    rw [Array.getElem?_setIfInBounds, if_neg (fun he => hk he.symm)]
  have here : (putO w R.blk o).heap[R.blk]? = some o := by
    have := (h.dom _ _ e).2
    unfold putO
    simp only
    rw [Array.getElem?_setIfInBounds, if_pos rfl, if_pos this]
  have hBR := h.blk b R e
  rw [hb] at hBR
  have hg : ∀ x', (H.put b (.obj x)).get x' = if x' = b then .obj x else H.get x' := fun x' => Heap.get_put _ _ _ _ trivial
  have live : ∀ x', (H.put b (.obj x)).get x' ≠ .dead → H.get x' ≠ .dead := fun x' hx => by
    rw [hg] at hx
    by_cases hxb : x' = b
    · subst hxb; rw [hb]; simp
    · rwa [if_neg hxb] at hx
  have liveW : ∀ x', Wr ((H.put b (.obj x)).get x') → Wr (H.get x') := fun x' hx => by
    rw [hg] at hx
    by_cases hxb : x' = b
    · subst hxb; rw [hb]; trivial
    · rwa [if_neg hxb] at hx
  refine ⟨⟨fun x' S ex => ?_, fun x' y' S S' ex ey dx dy hS => h.inj x' y' S S' ex ey (live _ dx) (live _ dy) hS, fun x' S ex => ?_, h.glob.same fun g hgl => other _ fun he => Nat.lt_irrefl _ (he ▸ Nat.lt_of_lt_of_le hgl (h.high b R e (by rw [hb]; trivial))), fun x' S ex hw => h.high x' S ex (liveW _ hw)⟩, fun _ _ ex => ex, by rw [hsize]; exact Nat.le_refl _, rfl, rfl, rfl, fun r _ hn => ?_, fun x' S ex hd => .inr ⟨x', S, ex, liveW _ hd, rfl⟩⟩
  · rw [hg]
    by_cases hxb : x' = b
    · subst hxb
      rw [e] at ex
      obtain rfl : R = S := by simpa using ex
      rw [if_pos rfl]
      exact ⟨hBR.1, o, here, ho⟩
    · rw [if_neg hxb]
      by_cases hd : H.get x' = .dead
      · rw [hd]; trivial
      · refine (h.blk x' S ex).same (other _ fun he => hxb ?_)
        exact h.inj x' b S R ex e hd (by rw [hb]; simp) he
  · exact ⟨(h.dom _ _ ex).1, by rw [hsize]; exact (h.dom _ _ ex).2⟩
  · exact other _ fun he => hn b R e (by rw [hb]; trivial) he.symm

/-- A block is given up; a new one lies in its real block. -/
theorem Step.regrow {ρ : Env} {H : Heap} {w : World} (h : HRel ρ H w) (b : Nat) (R S : RB) (e : ρ b = some R) (hm : True) (hm' : True) (hliveW : Wr (H.get b)) (z : Nat) (l' : List (List AVal))
    (c c' : Array Value) (et : TypeId) (hc : w.heap[R.blk]? = some (.cells c et (0, 0))) (_hs : c'.size = c.size) (hS : S.blk = R.blk) (h1 : S.esz = z) (h2 : S.n = l'.length) (h3 : S.off + S.n * S.esz ≤ S.size) (h5 : c'.size = S.size) (hz : ∀ row ∈ l', row.length = z)
    (hr : ∀ (r : Nat) (row : List AVal), l'[r]? = some row → ∀ (j : Nat) (x : AVal), row[j]? = some x → ∃ v, c'[S.off + r * S.esz + j]? = some v ∧ v.oneCell' = true ∧ VRel ρ x v) :
    Step ρ H w (ρ.add H.next S) ((H.put b .dead).add (.rows z l')) (w.setRow R.blk c') := by
  have hx := Env.add_ext (R := S) h.fresh
  have hlive : H.get b ≠ .dead := hliveW.live
  have hbn : b ≠ H.next := fun he => by have := (h.dom _ _ e).1; omega
  have hg : ∀ x, ((H.put b .dead).add (.rows z l')).get x = if x = H.next then .rows z l' else if x = b then .dead else H.get x := fun x => by
    rw [Heap.get_add _ _ _ hm', Heap.next_put, Heap.get_put _ _ _ _ hm]
  have old : ∀ x T, ρ.add H.next S x = some T → x ≠ H.next → ρ x = some T := fun x T ex hb => by simpa [Env.add, hb] using ex
  have new : ∀ T, ρ.add H.next S H.next = some T → T = S := fun T ex => by simpa [Env.add] using ex.symm
  have live : ∀ x, ((H.put b .dead).add (.rows z l')).get x ≠ .dead → x ≠ H.next → x ≠ b ∧ H.get x ≠ .dead := fun x hd hn => by
    rw [hg, if_neg hn] at hd
    by_cases hxb : x = b
    · rw [if_pos hxb] at hd; exact absurd rfl hd
    · rw [if_neg hxb] at hd; exact ⟨hxb, hd⟩
  have liveW : ∀ x, Wr (((H.put b .dead).add (.rows z l')).get x) → x ≠ H.next → Wr (H.get x) := fun x hd hn => by
    rw [hg, if_neg hn] at hd
    by_cases hxb : x = b
    · rw [if_pos hxb] at hd; exact hd.elim
    · rw [if_neg hxb] at hd; exact hd
  refine ⟨⟨fun x T ex => ?_, fun x y T T' ex ey dx dy hT => ?_, fun x T ex => ?_, h.glob.same fun g hgl => heap_setRow_other _ _ _ _ fun he => Nat.lt_irrefl _ (he ▸ Nat.lt_of_lt_of_le hgl (h.high b R e hliveW)), fun x T ex hwr => ?_⟩, hx, by simp, rfl, rfl, rfl, fun r _ hn => ?_, fun x T ex hd => ?_⟩
  · rw [hg]
    by_cases hn : x = H.next
    · subst hn
      obtain rfl := new T ex
      rw [if_pos rfl]
      refine ⟨h1, h2, h3, hz, c', et, by rw [hS]; exact setRow_heap w R.blk c c' et (0, 0) hc, h5, fun r row hrow j y hy => ?_⟩
      obtain ⟨v, hv, ho, hv'⟩ := hr r row hrow j y hy
      exact ⟨v, hv, ho, hv'.mono hx⟩
    · rw [if_neg hn]
      by_cases hxb : x = b
      · rw [if_pos hxb]; trivial
      · rw [if_neg hxb]
        have ex' := old x T ex hn
        by_cases hd : H.get x = .dead
        · rw [hd]; trivial
        · exact ((h.blk x T ex').same (heap_setRow_other _ _ _ _ fun he => hxb (h.inj x b T R ex' e hd hlive he))).mono hx
  · by_cases hn : x = H.next <;> by_cases hn' : y = H.next
    · rw [hn, hn']
    · subst hn
      obtain rfl := new T ex
      obtain ⟨hyb, hyd⟩ := live y dy hn'
      exact absurd (h.inj y b T' R (old _ _ ey hn') e hyd hlive (hT.symm.trans hS)) hyb
    · subst hn'
      obtain rfl := new T' ey
      obtain ⟨hxb, hxd⟩ := live x dx hn
      exact absurd (h.inj x b T R (old _ _ ex hn) e hxd hlive (hT.trans hS)) hxb
    · exact h.inj x y T T' (old _ _ ex hn) (old _ _ ey hn') (live x dx hn).2 (live y dy hn').2 hT
  · by_cases hn : x = H.next
    · subst hn
      obtain rfl := new T ex
      exact ⟨by rw [Heap.next_add, Heap.next_put]; omega, by rw [hS]; simpa using (h.dom _ _ e).2⟩
    · have := h.dom _ _ (old x T ex hn)
      exact ⟨by rw [Heap.next_add, Heap.next_put]; omega, by simpa using this.2⟩
  · rw [Heap.gl_add, Heap.gl_put]
    by_cases hn : x = H.next
    · subst hn
      obtain rfl := new T ex
      rw [hS]
      exact h.high _ _ e hliveW
    · exact h.high _ _ (old x T ex hn) (liveW x hwr hn)
  · exact heap_setRow_other _ _ _ _ fun he => hn b R e hliveW he.symm
  · by_cases hn : x = H.next
    · subst hn
      obtain rfl := new T ex
      exact .inr ⟨b, R, e, hliveW, hS.symm⟩
    · exact .inr ⟨x, T, old x T ex hn, liveW x hd hn, rfl⟩

/-! ### What the small functions on lists do -/
theorem llen_eq (l : List AVal) : llen l = l.length := by induction l with | nil => rfl | cons x l ih => simp [llen, ih]
theorem rlen_eq (l : List (List AVal)) : rlen l = l.length := by induction l with | nil => rfl | cons x l ih => simp [rlen, ih]
theorem rget_eq (l : List (List AVal)) : ∀ k, rget l k = l[k]? := by
  induction l with
  | nil => intro k; rfl
  | cons x l ih => intro k; cases k <;> simp [rget, ih]
theorem lget_eq (l : List AVal) : ∀ k, lget l k = l[k]?.getD (.tup []) := by
  induction l with
  | nil => intro k; rfl
  | cons x l ih => intro k; cases k <;> simp [lget, ih]
theorem lset_eq (l : List AVal) (v : AVal) : ∀ k, lset l k v = l.set k v := by
  induction l with
  | nil => intro k; rfl
  | cons x l ih => intro k; cases k <;> simp [lset, ih]
theorem rset_eq (l : List (List AVal)) (v : List AVal) : ∀ k, rset l k v = l.set k v := by
  induction l with
  | nil => intro k; rfl
  | cons x l ih => intro k; cases k <;> simp [rset, ih]
theorem cut_eq (l : List AVal) : ∀ (c n : Nat) (r : List AVal), cut l c n = some r → r = (l.drop c).take n ∧ (n ≠ 0 ∨ True) ∧ r.length = n := by
  induction l with
  | nil =>
    intro c n r h
    cases c <;> cases n <;> simp [cut] at h
    subst h
    simp
  | cons x l ih =>
    intro c n r h
    cases c with
    | succ c =>
      have h' : cut l c n = some r := by simpa [cut] using h
      obtain ⟨a, _, b⟩ := ih c n r h'
      exact ⟨by simpa using a, by simp, b⟩
    | zero =>
      cases n with
      | zero => simp [cut] at h; subst h; simp
      | succ n =>
        simp only [cut] at h
        split at h
        · rename_i s hs
          obtain ⟨a, _, b⟩ := ih 0 n s hs
          simp at h
          subst h
          exact ⟨by simpa using a, by simp, by simp [b]⟩
        · cases h
theorem rtake_eq (l : List (List AVal)) : ∀ (c n : Nat) (r : List (List AVal)), rtake l c n = some r → r = (l.drop c).take n ∧ r.length = n := by
  induction l with
  | nil =>
    intro c n r h
    cases c <;> cases n <;> simp [rtake] at h
    subst h
    simp
  | cons x l ih =>
    intro c n r h
    cases c with
    | succ c =>
      have h' : rtake l c n = some r := by simpa [rtake] using h
      obtain ⟨a, b⟩ := ih c n r h'
      exact ⟨by simpa using a, b⟩
    | zero =>
      cases n with
      | zero => simp [rtake] at h; subst h; simp
      | succ n =>
        simp only [rtake] at h
        split at h
        · rename_i s hs
          obtain ⟨a, b⟩ := ih 0 n s hs
          simp at h
          subst h
          exact ⟨by simpa using a, by simp [b]⟩
        · cases h
theorem splice_get (l : List AVal) : ∀ (c : Nat) (new : List AVal) (i : Nat), (splice l c new)[i]? = if c ≤ i ∧ i < c + new.length ∧ i < l.length then new[i - c]? else l[i]? := by
  induction l with
  | nil => intro c new i; simp [splice]
  | cons x l ih =>
    intro c new i
    cases c with
    | succ c =>
      cases i with
      | zero => simp [splice]
      | succ i =>
        simp only [splice, List.getElem?_cons_succ, ih, List.length_cons]
        by_cases hh : c ≤ i ∧ i < c + new.length ∧ i < l.length
        · rw [if_pos hh, if_pos (by omega)]; congr 1; omega
        · rw [if_neg hh, if_neg (by omega)]
    | zero =>
      cases new with
      | nil => simp [splice]
      | cons y new =>
        cases i with
        | zero => simp [splice]
        | succ i =>
          simp only [splice, List.getElem?_cons_succ, ih, List.length_cons]
          by_cases hh : 0 ≤ i ∧ i < 0 + new.length ∧ i < l.length
          · rw [if_pos hh, if_pos (by omega)]; simp
          · rw [if_neg hh, if_neg (by omega)]
theorem splice_length (l : List AVal) : ∀ (c : Nat) (new : List AVal), (splice l c new).length = l.length := by
  induction l with
  | nil => intro c new; rfl
  | cons x l ih =>
    intro c new
    cases c with
    | succ c => simp [splice, ih]
    | zero => cases new <;> simp [splice, ih]
theorem rsplice_get (l : List (List AVal)) : ∀ (c : Nat) (new : List (List AVal)) (i : Nat), (rsplice l c new)[i]? = if c ≤ i ∧ i < c + new.length ∧ i < l.length then new[i - c]? else l[i]? := by
  induction l with
  | nil => intro c new i; simp [rsplice]
  | cons x l ih =>
    intro c new i
    cases c with
    | succ c =>
      cases i with
      | zero => simp [rsplice]
      | succ i =>
        simp only [rsplice, List.getElem?_cons_succ, ih, List.length_cons]
        by_cases hh : c ≤ i ∧ i < c + new.length ∧ i < l.length
        · rw [if_pos hh, if_pos (by omega)]; congr 1; omega
        · rw [if_neg hh, if_neg (by omega)]
    | zero =>
      cases new with
      | nil => simp [rsplice]
      | cons y new =>
        cases i with
        | zero => simp [rsplice]
        | succ i =>
          simp only [rsplice, List.getElem?_cons_succ, ih, List.length_cons]
          by_cases hh : 0 ≤ i ∧ i < 0 + new.length ∧ i < l.length
          · rw [if_pos hh, if_pos (by omega)]; simp
          · rw [if_neg hh, if_neg (by omega)]
theorem rsplice_length (l : List (List AVal)) : ∀ (c : Nat) (new : List (List AVal)), (rsplice l c new).length = l.length := by
  induction l with
  | nil => intro c new; rfl
  | cons x l ih =>
    intro c new
    cases c with
    | succ c => simp [rsplice, ih]
    | zero => cases new <;> simp [rsplice, ih]
end Dt
