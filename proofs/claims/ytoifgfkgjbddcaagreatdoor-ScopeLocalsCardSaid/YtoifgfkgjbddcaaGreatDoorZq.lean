/- A part of the abstract machine and of the proof that the program does what it reckons; no conditions. -/
import Derived.Test.YtoifgfkgjbddcaaGreatDoorZp
set_option linter.all false
namespace Dt
open Go
set_option linter.all false
variable [LoopTab]
section steps
variable {R : Type} {A : Alg R} {call : Nat → List AVal → Heap → (AVal → Heap → R) → R}
theorem build1_holds {z : Nat} {zero : List AVal} {x : Opd} {vs ts : List AVal} {H : Heap} {K : AVal → Heap → R} (h : A.holds (evI A call (.buildS z [zero] [(0, x)]) vs ts H K)) :
    ∃ cs, (x.get vs ts).cells = some cs ∧ cs.length = z ∧ A.holds (K (.slc H.next 0 1 (some 1) z) (H.add (.rows z [cs]))) := by
  simp only [evI, fillR] at h
  cases hcs : (x.get vs ts).cells with
  | none => rw [hcs] at h; exact (A.fail_no h).elim
  | some cs =>
    rw [hcs] at h
    simp only at h
    cases hfit : (Nat.beq (llen cs) z && Nat.blt 0 (rlen [zero])) with
    | false => rw [hfit] at h; exact (A.fail_no h).elim
    | true =>
      rw [hfit] at h
      simp only [fL_eq, rset] at h
      obtain ⟨_, h⟩ := hAdd_holds h
      simp only [fN_eq, rlen] at h
      simp only [Bool.and_eq_true, llen_eq] at hfit
      exact ⟨cs, rfl, by simpa using hfit.1, h⟩
theorem build1_give {z : Nat} {zero cs : List AVal} {x : Opd} {vs ts : List AVal} {H : Heap} {K : AVal → Heap → Prop} (h1 : (x.get vs ts).cells = some cs) (h2 : cs.length = z) (h : K (.slc H.next 0 1 (some 1) z) (H.add (.rows z [cs]))) : evI AP noCall (.buildS z [zero] [(0, x)]) vs ts H K := by
  simp only [evI, fillR, h1]
  have : (Nat.beq (llen cs) z && Nat.blt 0 (rlen [zero])) = true := by
    rw [llen_eq, h2]
    simp [rlen]
  rw [this]
  simp only [fL_eq, rset, hAdd_eq, fN_eq, rlen]
  exact h
theorem kill_holds {x : Opd} {b r n : Nat} {cap : Option Nat} {z : Nat} {vs ts : List AVal} {H : Heap} {K : AVal → Heap → R} (hx : x.get vs ts = .slc b r n cap z) (h : A.holds (evI A call (.kill x) vs ts H K)) : A.holds (K (.tup []) (H.put b .dead)) := by
  simp only [evI, hx] at h
  split at h
  · exact (hPut_holds h).2
  · exact (A.fail_no h).elim
theorem kill_give {x : Opd} {b r n : Nat} {cap : Option Nat} {z z' : Nat} {l : List (List AVal)} {vs ts : List AVal} {H : Heap} {K : AVal → Heap → Prop} (hx : x.get vs ts = .slc b r n cap z) (hb : H.get b = .rows z' l) (h : K (.tup []) (H.put b .dead)) : evI AP noCall (.kill x) vs ts H K := by
  simp only [evI, hx, hb, hPut_eq]
  exact h
theorem cells_nonbool {x : AVal} {cs : List AVal} (h : x.cells = some cs) (hl : cs.length ≠ 1) : ∀ b, x ≠ .bool b := by
  intro b hb
  subst hb
  simp [AVal.cells] at h
  subst h
  exact hl rfl
theorem lget_set_same {vs : List AVal} {i : Nat} {v : AVal} (h : i < vs.length) : lget (lset vs i v) i = v := by
  rw [lget_eq, lset_eq, List.getElem?_set, if_pos rfl, if_pos h]; rfl
theorem lget_set_other {vs : List AVal} {i j : Nat} {v : AVal} (h : j ≠ i) : lget (lset vs i v) j = lget vs j := by
  rw [lget_eq, lset_eq, List.getElem?_set, if_neg (Ne.symm h), ← lget_eq]
theorem lset_len {vs : List AVal} {i : Nat} {v : AVal} : (lset vs i v).length = vs.length := by rw [lset_eq, List.length_set]
theorem append_eq {z bytes : Nat} {x y : Opd} {vs ts : List AVal} {H : Heap} {K : AVal → Heap → R} : evI A call (.append z bytes x y) vs ts H K = doAppend A z bytes (x.get vs ts) (y.get vs ts) H K := by simp only [evI]
theorem store_eq {n : Nat} {x y : Opd} {vs ts : List AVal} {H : Heap} {K : AVal → Heap → R} : evI A call (.store n x y) vs ts H K = doStore A n (x.get vs ts) (y.get vs ts) H fun H => K (.tup []) H := by simp only [evI]
end steps

theorem pair142 : PairOk x142 y142 [6, 7, 8] (.v 2) 5 := by
  intro R A call vs H K hl hap h
  have l6 : 6 < vs.length := hl 6 (by simp)
  have l7 : 7 < vs.length := hl 7 (by simp)
  have l8 : 8 < vs.length := hl 8 (by simp)
  unfold apartF at hap
  split at hap
  rotate_left
  · cases hap
  rename_i c r k a1
  simp only [y142, evC, evOps] at h
  obtain ⟨x1, e1, h⟩ := quiet_holds (.inr rfl) h
  rw [sink] at h
  obtain ⟨x2, e2, h⟩ := quiet_holds (.inr rfl) h
  rw [sink] at h
  obtain ⟨x3, e3, h⟩ := quiet_holds (.inl rfl) h
  rw [sink] at h
  obtain ⟨x4, e4, h⟩ := quiet_holds (.inl rfl) h
  rw [sink] at h
  obtain ⟨x5, e5, h⟩ := quiet_holds (.inr rfl) h
  rw [sink] at h
  obtain ⟨x6, e6, h⟩ := quiet_holds (.inr rfl) h
  rw [sink] at h
  have q1 : x1 = .ptr c r k := Option.some.inj (e1.symm.trans a1)
  have q2 : x2 = .ptr c r k := Option.some.inj (e2.symm.trans a1)
  subst q1 q2
  have q3 : x3 = .ptr c r k := (Option.some.inj e3).symm
  subst q3
  have q4 : x4 = .ptr c r (k + 5) := by
    have := e4
    simp only [evQ, evI, Opd.get, lget, fN_eq, Option.some.injEq] at this
    exact this.symm
  subst q4
  have hX : ∀ b r' n cap z', x5 = .slc b r' n cap z' → b ≠ c ∧ b < H.next := by
    intro b r' n cap z' he
    subst he
    have e5' : evQ (.load1 (.c (.ptr c r (k + 5)))) [] [] H = some (.slc b r' n cap z') := e5
    rw [e5'] at hap
    simp only [Bool.and_eq_true, Bool.not_eq_true'] at hap
    exact ⟨(fun hh => by have := hap.1; rw [hh] at this; rw [show Nat.beq c c = true from by rw [Nat.beq_eq]] at this; cases this), Nat.le_of_ble_eq_true hap.2.1⟩
  have hc : c < H.next := by
    have e5' : evQ (.load1 (.c (.ptr c r (k + 5)))) [] [] H = some x5 := e5
    rw [e5'] at hap
    cases x5 <;> try (cases hap; done)
    · simp only [Bool.and_eq_true] at hap; exact Nat.le_of_ble_eq_true hap.2.2
    · exact Nat.le_of_ble_eq_true hap
  obtain ⟨cs, hcs, hlen, h⟩ := build1_holds h
  rw [sink] at h
  rw [append_eq] at h
  simp only [Opd.get, lget] at h
  obtain ⟨E, bZ, rZ, n, capZ, zz, L, L0, f1, f2, f3, f4, h, hgive, f5, f6⟩ := app_two (c := c) hX hc [.int .i64 (.ofNat 0), .int .i64 (.ofNat 0), .str 0 0, .bool false, .nils, .nils, .int .i64 (.ofNat 0)] h
  try dsimp only at h
  rw [sink] at h
  have h := again1_holds h
  rw [sink] at h
  obtain ⟨y1, g1, h⟩ := quiet_holds (.inl rfl) h
  rw [sink] at h
  obtain ⟨y2, g2, h⟩ := quiet_holds (.inl rfl) h
  rw [sink] at h
  have r1 : y1 = .ptr c r k := (Option.some.inj g1).symm
  subst r1
  have r2 : y2 = .ptr c r (k + 5) := by
    have := g2
    simp only [evQ, evI, Opd.get, lget, fN_eq, Option.some.injEq] at this
    exact this.symm
  subst r2
  rw [store_eq] at h
  simp only [Opd.get, lget] at h
  obtain ⟨c', r', k', zs, zc, lc, row, s1, s2, s3, s4, s5, h⟩ := doStore_some h
  simp only [AVal.ptr.injEq] at s1
  obtain ⟨rfl, rfl, rfl⟩ := s1
  try dsimp only at h
  rw [sink] at h
  have h := kill_holds (b := H.next) (r := 0) (n := 1) (cap := some 1) (z := 7) rfl h
  rw [sink] at h
  have hz6 : ∀ b, x6 ≠ .bool b := cells_nonbool hcs (by rw [hlen]; decide)
  have hcE : ∀ R0 R1 : Blk, ((E.put H.next R0).put bZ R1).get c = E.get c := fun R0 R1 => by
    rw [Heap.get_put _ _ _ _ trivial, if_neg (Ne.symm f2), Heap.get_put _ _ _ _ trivial, if_neg (by omega)]
  rw [hcE] at s3
  -- the other code
  simp only [x142, evC, evOps]
  refine quiet_give (.inr rfl) e1 ?_
  rw [sink]
  refine quiet_give (x := .ptr c r k) (.inl rfl) rfl ?_
  rw [sink]
  refine quiet_give (x := .ptr c r (k + 5)) (.inl rfl) (by simp only [evQ, evI, Opd.get, lget, fN_eq]) ?_
  rw [sink]
  refine quiet_give (.inr rfl) e5 ?_
  rw [sink]
  refine quiet_give (.inr rfl) e6 ?_
  rw [sink, fL_eq]
  refine quiet_give (x := .int .i64 (.ofNat n)) (.inl rfl) ?_ ?_
  · show evQ (.len false (.c x5)) [] [] H = _
    cases x5 <;> simp [lenA] at f4 <;> subst f4 <;> rfl
  rw [sink, fL_eq]
  refine build1_give (cs := [.int .i64 (.ofNat 0), .int .i64 (.ofNat 0), .str 0 0, .bool false, .nils, .nils, .int .i64 (.ofNat 0)]) rfl rfl ?_
  rw [sink]
  rw [append_eq]
  simp only [Opd.get, lget]
  refine hgive _ ?_
  try dsimp only
  rw [sink, fL_eq]
  refine quiet_give (x := .ptr c r k) (.inl rfl) rfl ?_
  rw [sink]
  refine quiet_give (x := .ptr c r (k + 5)) (.inl rfl) (by simp only [evQ, evI, Opd.get, lget, fN_eq]) ?_
  rw [sink]
  have v8 : lget (lset (lset (lset vs 6 x6) 7 (.int .i64 (.ofNat n))) 8 (.slc bZ rZ (n + 1) capZ 7)) 8 = .slc bZ rZ (n + 1) capZ 7 := lget_set_same (by simp only [lset_len]; exact l8)
  have v7 : lget (lset (lset (lset vs 6 x6) 7 (.int .i64 (.ofNat n))) 8 (.slc bZ rZ (n + 1) capZ 7)) 7 = .int .i64 (.ofNat n) := by
    rw [lget_set_other (by decide)]
    exact lget_set_same (by simp only [lset_len]; exact l7)
  have v6 : lget (lset (lset (lset vs 6 x6) 7 (.int .i64 (.ofNat n))) 8 (.slc bZ rZ (n + 1) capZ 7)) 6 = x6 := by
    rw [lget_set_other (by decide), lget_set_other (by decide)]
    exact lget_set_same l6
  have vo : ∀ i, i ∉ [6, 7, 8] → lget (lset (lset (lset vs 6 x6) 7 (.int .i64 (.ofNat n))) 8 (.slc bZ rZ (n + 1) capZ 7)) i = lget vs i := fun i hi => by
    simp only [List.mem_cons, List.not_mem_nil, or_false, not_or] at hi
    rw [lget_set_other hi.2.2, lget_set_other hi.2.1, lget_set_other hi.1]
  have vl : (lset (lset (lset vs 6 x6) 7 (.int .i64 (.ofNat n))) 8 (.slc bZ rZ (n + 1) capZ 7)).length = vs.length := by simp only [lset_len]
  generalize lset (lset (lset vs 6 x6) 7 (.int .i64 (.ofNat n))) 8 (.slc bZ rZ (n + 1) capZ 7) = vs2 at v8 v7 v6 vo vl ⊢
  rw [store_eq]
  simp only [Opd.get, lget]
  rw [v8]
  refine doStore_give s2 (by rw [hcE]; exact s3) s4 s5 ?_
  rw [sink]
  refine kill_give (b := H.next) (r := 0) (n := 1) (cap := some 1) (z := 7) rfl (by rw [Heap.get_put _ _ _ _ trivial, if_neg (by omega), Heap.get_put _ _ _ _ trivial, if_neg (Ne.symm f1), Heap.get_put _ _ _ _ trivial, if_pos rfl]) ?_
  rw [sink]
  refine quiet_give (x := .ptr bZ (rZ + n) 0) (.inl rfl) ?_ ?_
  · have hlt : Nat.blt n (n + 1) = true := Nat.ble_eq_true_of_le (Nat.le_refl _)
    simp only [evQ, evI, Opd.get, v8, v7, hlt, fN_eq]
    rfl
  rw [sink, store_eq]
  simp only [Opd.get, lget]
  rw [v6]
  refine doStore_give hcs (by rw [Heap.get_put _ _ _ _ trivial, if_neg f1, Heap.get_put _ _ _ _ trivial, if_neg f2, Heap.get_put _ _ _ _ trivial, if_pos rfl]) f5 (by rw [llen_eq, hlen]; rfl) ?_
  rw [sink, splice_all _ _ (by rw [hlen]; rfl), show rset L0 (rZ + n) cs = L from by rw [rset_eq]; exact f6, same_heap E _ (.rows 7 [cs]) _ _ _ _ f1 (by omega) f2]
  refine ⟨trivial, vs, _, h, vl.symm, vo, fun i hi b => ?_⟩
  simp only [List.mem_cons, List.not_mem_nil, or_false] at hi
  rcases hi with rfl | rfl | rfl
  · rw [v6]; exact hz6 b
  · rw [v7]; simp
  · rw [v8]; simp
theorem pair118 : PairOk x118 y118 [17, 18, 19] (.v 5) 4 := by
  intro R A call vs H K hl hap h
  have l6 : 17 < vs.length := hl 17 (by simp)
  have l7 : 18 < vs.length := hl 18 (by simp)
  have l8 : 19 < vs.length := hl 19 (by simp)
  unfold apartF at hap
  split at hap
  rotate_left
  · cases hap
  rename_i c r k a1
  simp only [y118, evC, evOps] at h
  obtain ⟨x1, e1, h⟩ := quiet_holds (.inr rfl) h
  rw [sink] at h
  obtain ⟨x2, e2, h⟩ := quiet_holds (.inr rfl) h
  rw [sink] at h
  obtain ⟨x3, e3, h⟩ := quiet_holds (.inl rfl) h
  rw [sink] at h
  obtain ⟨x4, e4, h⟩ := quiet_holds (.inl rfl) h
  rw [sink] at h
  obtain ⟨x5, e5, h⟩ := quiet_holds (.inr rfl) h
  rw [sink] at h
  obtain ⟨u1, m1, h⟩ := quiet_holds (.inl rfl) h
  rw [sink] at h
  obtain ⟨u2, m2, h⟩ := quiet_holds (.inr rfl) h
  rw [sink] at h
  obtain ⟨u3, m3, h⟩ := quiet_holds (.inl rfl) h
  rw [sink] at h
  obtain ⟨u4, m4, h⟩ := quiet_holds (.inr rfl) h
  rw [sink] at h
  obtain ⟨u5, m5, h⟩ := quiet_holds (.inr rfl) h
  rw [sink] at h
  obtain ⟨x6, e6, h⟩ := quiet_holds (.inl rfl) h
  rw [sink] at h
  have q1 : x1 = .ptr c r k := Option.some.inj (e1.symm.trans a1)
  have q2 : x2 = .ptr c r k := Option.some.inj (e2.symm.trans a1)
  subst q1 q2
  have q3 : x3 = .ptr c r k := (Option.some.inj e3).symm
  subst q3
  have q4 : x4 = .ptr c r (k + 4) := by
    have := e4
    simp only [evQ, evI, Opd.get, lget, fN_eq, Option.some.injEq] at this
    exact this.symm
  subst q4
  have hX : ∀ b r' n cap z', x5 = .slc b r' n cap z' → b ≠ c ∧ b < H.next := by
    intro b r' n cap z' he
    subst he
    have e5' : evQ (.load1 (.c (.ptr c r (k + 4)))) [] [] H = some (.slc b r' n cap z') := e5
    rw [e5'] at hap
    simp only [Bool.and_eq_true, Bool.not_eq_true'] at hap
    exact ⟨(fun hh => by have := hap.1; rw [hh] at this; rw [show Nat.beq c c = true from by rw [Nat.beq_eq]] at this; cases this), Nat.le_of_ble_eq_true hap.2.1⟩
  have hc : c < H.next := by
    have e5' : evQ (.load1 (.c (.ptr c r (k + 4)))) [] [] H = some x5 := e5
    rw [e5'] at hap
    cases x5 <;> try (cases hap; done)
    · simp only [Bool.and_eq_true] at hap; exact Nat.le_of_ble_eq_true hap.2.2
    · exact Nat.le_of_ble_eq_true hap
  obtain ⟨cs, hcs, hlen, h⟩ := build1_holds h
  rw [sink] at h
  rw [append_eq] at h
  simp only [Opd.get, lget] at h
  obtain ⟨E, bZ, rZ, n, capZ, zz, L, L0, f1, f2, f3, f4, h, hgive, f5, f6⟩ := app_two (c := c) hX hc [.str 0 0, .bool false, .int .i64 (.ofNat 0), .int .i64 (.ofNat 0), .str 0 0, .bool false, .nils, .nils, .int .i64 (.ofNat 0)] h
  try dsimp only at h
  rw [sink] at h
  have h := again1_holds h
  rw [sink] at h
  obtain ⟨y1, g1, h⟩ := quiet_holds (.inl rfl) h
  rw [sink] at h
  obtain ⟨y2, g2, h⟩ := quiet_holds (.inl rfl) h
  rw [sink] at h
  have r1 : y1 = .ptr c r k := (Option.some.inj g1).symm
  subst r1
  have r2 : y2 = .ptr c r (k + 4) := by
    have := g2
    simp only [evQ, evI, Opd.get, lget, fN_eq, Option.some.injEq] at this
    exact this.symm
  subst r2
  rw [store_eq] at h
  simp only [Opd.get, lget] at h
  obtain ⟨c', r', k', zs, zc, lc, row, s1, s2, s3, s4, s5, h⟩ := doStore_some h
  simp only [AVal.ptr.injEq] at s1
  obtain ⟨rfl, rfl, rfl⟩ := s1
  try dsimp only at h
  rw [sink] at h
  have h := kill_holds (b := H.next) (r := 0) (n := 1) (cap := some 1) (z := 9) rfl h
  rw [sink] at h
  have hz6 : ∀ b, x6 ≠ .bool b := cells_nonbool hcs (by rw [hlen]; decide)
  have hcE : ∀ R0 R1 : Blk, ((E.put H.next R0).put bZ R1).get c = E.get c := fun R0 R1 => by
    rw [Heap.get_put _ _ _ _ trivial, if_neg (Ne.symm f2), Heap.get_put _ _ _ _ trivial, if_neg (by omega)]
  rw [hcE] at s3
  -- the other code
  simp only [x118, evC, evOps]
  refine quiet_give (.inr rfl) e1 ?_
  rw [sink]
  refine quiet_give (x := .ptr c r k) (.inl rfl) rfl ?_
  rw [sink]
  refine quiet_give (x := .ptr c r (k + 4)) (.inl rfl) (by simp only [evQ, evI, Opd.get, lget, fN_eq]) ?_
  rw [sink]
  refine quiet_give (.inr rfl) e5 ?_
  rw [sink]
  refine quiet_give (.inl rfl) m1 ?_
  rw [sink]
  refine quiet_give (.inr rfl) m2 ?_
  rw [sink]
  refine quiet_give (.inl rfl) m3 ?_
  rw [sink]
  refine quiet_give (.inr rfl) m4 ?_
  rw [sink]
  refine quiet_give (.inr rfl) m5 ?_
  rw [sink]
  refine quiet_give (.inl rfl) e6 ?_
  rw [sink, fL_eq]
  refine quiet_give (x := .int .i64 (.ofNat n)) (.inl rfl) ?_ ?_
  · show evQ (.len false (.c x5)) [] [] H = _
    cases x5 <;> simp [lenA] at f4 <;> subst f4 <;> rfl
  rw [sink, fL_eq]
  refine build1_give (cs := [.str 0 0, .bool false, .int .i64 (.ofNat 0), .int .i64 (.ofNat 0), .str 0 0, .bool false, .nils, .nils, .int .i64 (.ofNat 0)]) rfl rfl ?_
  rw [sink]
  rw [append_eq]
  simp only [Opd.get, lget]
  refine hgive _ ?_
  try dsimp only
  rw [sink, fL_eq]
  refine quiet_give (x := .ptr c r k) (.inl rfl) rfl ?_
  rw [sink]
  refine quiet_give (x := .ptr c r (k + 4)) (.inl rfl) (by simp only [evQ, evI, Opd.get, lget, fN_eq]) ?_
  rw [sink]
  have v8 : lget (lset (lset (lset vs 17 x6) 18 (.int .i64 (.ofNat n))) 19 (.slc bZ rZ (n + 1) capZ 9)) 19 = .slc bZ rZ (n + 1) capZ 9 := lget_set_same (by simp only [lset_len]; exact l8)
  have v7 : lget (lset (lset (lset vs 17 x6) 18 (.int .i64 (.ofNat n))) 19 (.slc bZ rZ (n + 1) capZ 9)) 18 = .int .i64 (.ofNat n) := by
    rw [lget_set_other (by decide)]
    exact lget_set_same (by simp only [lset_len]; exact l7)
  have v6 : lget (lset (lset (lset vs 17 x6) 18 (.int .i64 (.ofNat n))) 19 (.slc bZ rZ (n + 1) capZ 9)) 17 = x6 := by
    rw [lget_set_other (by decide), lget_set_other (by decide)]
    exact lget_set_same l6
  have vo : ∀ i, i ∉ [17, 18, 19] → lget (lset (lset (lset vs 17 x6) 18 (.int .i64 (.ofNat n))) 19 (.slc bZ rZ (n + 1) capZ 9)) i = lget vs i := fun i hi => by
    simp only [List.mem_cons, List.not_mem_nil, or_false, not_or] at hi
    rw [lget_set_other hi.2.2, lget_set_other hi.2.1, lget_set_other hi.1]
  have vl : (lset (lset (lset vs 17 x6) 18 (.int .i64 (.ofNat n))) 19 (.slc bZ rZ (n + 1) capZ 9)).length = vs.length := by simp only [lset_len]
  generalize lset (lset (lset vs 17 x6) 18 (.int .i64 (.ofNat n))) 19 (.slc bZ rZ (n + 1) capZ 9) = vs2 at v8 v7 v6 vo vl ⊢
  rw [store_eq]
  simp only [Opd.get, lget]
  rw [v8]
  refine doStore_give s2 (by rw [hcE]; exact s3) s4 s5 ?_
  rw [sink]
  refine kill_give (b := H.next) (r := 0) (n := 1) (cap := some 1) (z := 9) rfl (by rw [Heap.get_put _ _ _ _ trivial, if_neg (by omega), Heap.get_put _ _ _ _ trivial, if_neg (Ne.symm f1), Heap.get_put _ _ _ _ trivial, if_pos rfl]) ?_
  rw [sink]
  refine quiet_give (x := .ptr bZ (rZ + n) 0) (.inl rfl) ?_ ?_
  · have hlt : Nat.blt n (n + 1) = true := Nat.ble_eq_true_of_le (Nat.le_refl _)
    simp only [evQ, evI, Opd.get, v8, v7, hlt, fN_eq]
    rfl
  rw [sink, store_eq]
  simp only [Opd.get, lget]
  rw [v6]
  refine doStore_give hcs (by rw [Heap.get_put _ _ _ _ trivial, if_neg f1, Heap.get_put _ _ _ _ trivial, if_neg f2, Heap.get_put _ _ _ _ trivial, if_pos rfl]) f5 (by rw [llen_eq, hlen]; rfl) ?_
  rw [sink, splice_all _ _ (by rw [hlen]; rfl), show rset L0 (rZ + n) cs = L from by rw [rset_eq]; exact f6, same_heap E _ (.rows 9 [cs]) _ _ _ _ f1 (by omega) f2]
  refine ⟨trivial, vs, _, h, vl.symm, vo, fun i hi b => ?_⟩
  simp only [List.mem_cons, List.not_mem_nil, or_false] at hi
  rcases hi with rfl | rfl | rfl
  · rw [v6]; exact hz6 b
  · rw [v7]; simp
  · rw [v8]; simp
end Dt
