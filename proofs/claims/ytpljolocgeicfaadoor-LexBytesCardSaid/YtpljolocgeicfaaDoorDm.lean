/- A part of the abstract machine and of the proof that the program does what it reckons; no conditions. -/
import Derived.Test.YtpljolocgeicfaaDoorDl
namespace Dt
open Go Go.RowKit
/-! ### A region that draws an order -/
section orders
variable {ops : Array Oper}

def Edge (ops : Array Oper) (x i : Nat) : Prop := ∃ o e, ops[i]? = some o ∧ e ∈ o.after ∧ Region.binds .any e = true ∧ e.on = x
inductive Anc (ops : Array Oper) (x : Nat) : Nat → Prop
  | one {i : Nat} (h : Edge ops x i) : Anc ops x i
  | more {y i : Nat} (h : Edge ops y i) (h2 : Anc ops x y) : Anc ops x i
def ApartAt (ops : Array Oper) (x y : Nat) : Prop := ∃ ox oy, ops[x]? = some ox ∧ ops[y]? = some oy ∧ ox.apart ops oy = true

def KeepsAt (ops : Array Oper) (x y : Nat) : Prop := ∃ ox oy, ops[x]? = some ox ∧ ops[y]? = some oy ∧ ∀ d, oy.dst = some d → d ∉ ox.looksAt ops ∧ ox.dst ≠ some d

def KnownOk (ops : Array Oper) (known : List (Nat × Nat)) : Prop := ∀ p ∈ known, ∀ x, p.2.testBit x = true → Anc ops x p.1

theorem maskOf_sound : ∀ {known : List (Nat × Nat)}, KnownOk ops known → ∀ {j x : Nat}, (maskOf known j).testBit x = true → Anc ops x j
  | [], _, j, x, h => by simp [maskOf] at h
  | (i, m) :: l, hk, j, x, h => by
    simp only [maskOf] at h
    split at h
    · rename_i hij
      have : i = j := by simpa using hij
      subst this
      exact hk (i, m) (by simp) x h
    · exact maskOf_sound (fun p hp => hk p (by simp [hp])) h

theorem ancMask_sound {known : List (Nat × Nat)} (hk : KnownOk ops known) {i x : Nat} (h : (ancMask ops known i).testBit x = true) : Anc ops x i := by
  unfold ancMask at h
  cases ho : ops[i]? with
  | none => rw [ho] at h; simp at h
  | some o =>
    rw [ho] at h
    simp only at h
    have key : ∀ (l : List Go.Edge) (m : Nat), (∀ e ∈ l, e ∈ o.after) → (m.testBit x = true → Anc ops x i) →
        (l.foldl (fun m e => if Region.binds .any e then (m ||| 2 ^ e.on) ||| maskOf known e.on else m) m).testBit x = true → Anc ops x i := by
      intro l
      induction l with
      | nil => intro m _ hm h; exact hm h
      | cons e l ih =>
        intro m hl hm h
        simp only [List.foldl_cons] at h
        refine ih _ (fun e' he' => hl e' (by simp [he'])) ?_ h
        intro hb
        split at hb
        · rename_i hbind
          have hedge : Edge ops e.on i := ⟨o, e, ho, hl e (by simp), hbind, rfl⟩
          rw [Nat.testBit_or, Nat.testBit_or] at hb
          simp only [Bool.or_eq_true] at hb
          rcases hb with (hb | hb) | hb
          · exact hm hb
          · have : e.on = x := by
              rw [Nat.testBit_two_pow] at hb
              simpa using hb
            exact this ▸ .one hedge
          · exact .more hedge (maskOf_sound hk hb)
        · exact hm hb
    exact key _ 0 (fun e he => by simpa using he) (by simp) h

/-- What a list of a region's operations must be. -/
def Good (ops : Array Oper) : List Nat → List It → Prop
  | seen, [] => ∀ i, i < ops.size → i ∈ seen
  | seen, .op i :: l => (∃ o, ops[i]? = some o) ∧ i ∉ seen ∧ (∀ x, Edge ops x i → x ∈ seen) ∧ (∀ x ∈ seen, Anc ops x i ∨ ApartAt ops x i) ∧ (∀ x ∈ seen, kindAt ops x = 2 → Anc ops x i) ∧
      (kindAt ops i = 2 → ∀ x ∈ seen, kindAt ops x = 1 → Anc ops x i ∨ freshAt ops i = true ∨ x ∈ againsOf l) ∧ Good ops (i :: seen) l
  | seen, .again i :: l => i ∈ seen ∧ (∃ o d, ops[i]? = some o ∧ o.dst = some d ∧ d ∉ o.looksAt ops) ∧ (∀ x ∈ seen.takeWhile (· != i), KeepsAt ops i x) ∧ Good ops seen l

theorem apartAt_spec {x y : Nat} (h : apartAt ops x y = true) : ApartAt ops x y := by
  unfold apartAt at h
  split at h
  · rename_i ox oy h1 h2
    exact ⟨ox, oy, h1, h2, h⟩
  · cases h

theorem keepsAt_spec {x y : Nat} (h : keepsAt ops x y = true) : KeepsAt ops x y := by
  unfold keepsAt at h
  split at h
  · rename_i ox oy h1 h2
    refine ⟨ox, oy, h1, h2, fun d hd => ?_⟩
    rw [hd] at h
    simp only [Bool.and_eq_true] at h
    exact ⟨by simpa using h.1, by simpa using h.2⟩
  · cases h

theorem chk_good : ∀ {l : List It} {known : List (Nat × Nat)}, KnownOk ops known → chk ops known l = true → Good ops (known.map (·.1)) l
  | [], known, _, h => by
    intro i hi
    simp only [chk, List.all_eq_true, List.mem_range, List.any_eq_true, beq_iff_eq] at h
    obtain ⟨p, hp, rfl⟩ := h i hi
    exact List.mem_map_of_mem hp
  | .op i :: l, known, hk, h => by
    simp only [chk] at h
    cases ho : ops[i]? with
    | none => rw [ho] at h; cases h
    | some o =>
      rw [ho] at h
      simp only [Bool.and_eq_true] at h
      obtain ⟨⟨⟨⟨⟨h1, h2⟩, h3⟩, h4⟩, h5⟩, h6⟩ := h
      have hm : ∀ x, (ancMask ops known i).testBit x = true → Anc ops x i := fun x hx => ancMask_sound hk hx
      refine ⟨⟨o, ho⟩, ?_, ?_, ?_, ?_, ?_, ?_⟩
      · intro hmem
        obtain ⟨p, hp, rfl⟩ := List.mem_map.1 hmem
        have : (known.any fun q => q.1 == p.1) = true := List.any_eq_true.2 ⟨p, hp, by simp⟩
        rw [this] at h1
        cases h1
      · rintro x ⟨o', e, ho', he, hb, rfl⟩
        rw [ho] at ho'
        simp at ho'
        subst ho'
        have := List.all_eq_true.1 h2 e (by simpa using he)
        rw [hb] at this
        simp only [Bool.not_true, Bool.false_or, List.any_eq_true, beq_iff_eq] at this
        obtain ⟨p, hp, hpe⟩ := this
        exact hpe ▸ List.mem_map_of_mem hp
      · intro x hx
        obtain ⟨p, hp, rfl⟩ := List.mem_map.1 hx
        have := List.all_eq_true.1 h3 p hp
        simp only [Bool.or_eq_true] at this
        exact this.imp (hm _) apartAt_spec
      · intro x hx hkx
        obtain ⟨p, hp, rfl⟩ := List.mem_map.1 hx
        have := List.all_eq_true.1 h4 p hp
        rw [hkx] at this
        simp only [bne_self_eq_false, Bool.false_or] at this
        exact hm _ this
      · intro hki x hx hkx
        obtain ⟨p, hp, rfl⟩ := List.mem_map.1 hx
        rw [hki] at h5
        simp only [bne_self_eq_false, Bool.false_or, Bool.or_eq_true] at h5
        rcases h5 with h5 | h5
        · exact .inr (.inl h5)
        have := List.all_eq_true.1 h5 p hp
        rw [hkx] at this
        simp only [bne_self_eq_false, Bool.false_or, Bool.or_eq_true] at this
        exact this.imp (hm _) (fun h => .inr (by simpa using h))
      · refine chk_good (known := (i, ancMask ops known i) :: known) (fun p hp x hx => ?_) h6
        rcases List.mem_cons.1 hp with rfl | hp
        · exact hm _ hx
        · exact hk p hp x hx
  | .again i :: l, known, hk, h => by
    simp only [chk, Bool.and_eq_true] at h
    obtain ⟨⟨⟨h1, h2⟩, h3⟩, h4⟩ := h
    refine ⟨?_, ?_, ?_, chk_good hk h4⟩
    · simp only [List.any_eq_true, beq_iff_eq] at h1
      obtain ⟨p, hp, rfl⟩ := h1
      exact List.mem_map_of_mem hp
    · cases ho : ops[i]? with
      | none => rw [ho] at h2; simp at h2
      | some o =>
        cases hd : o.dst with
        | none => rw [ho] at h2; simp [hd] at h2
        | some d =>
          rw [ho] at h2
          simp only [hd] at h2
          exact ⟨o, d, rfl, hd, by simpa using h2⟩
    · intro x hx
      rw [List.takeWhile_map] at hx
      obtain ⟨p, hp, rfl⟩ := List.mem_map.1 hx
      exact keepsAt_spec (List.all_eq_true.1 h3 p hp)

/-! What is yet to be done of what has been reckoned already -/

variable {P : Program}

theorem YieldsAt.of_same {o : Oper} {v : Value} {a a' : Act} {w : World} (h : YieldsAt P ops o v a w) (he : execOp a'.eval o = execOp a.eval o) (hw : Region.wanted o (yielded ops a'.tmps) = Region.wanted o (yielded ops a.tmps)) : YieldsAt P ops o v a' w := by
  unfold YieldsAt at *
  rw [he, hw]
  exact h

inductive Pend (P : Program) (ops : Array Oper) (w : World) : List Nat → Act → Act → Prop
  | nil (a : Act) : Pend P ops w [] a a
  | cons {i : Nat} {o : Oper} {v : Value} {l : List Nat} {a b : Act} (ho : ops[i]? = some o) (hk : rawKind o.op ≠ 2) (hy : Firm P ops o v a w) (hp : rawKind o.op = 0 → ∀ w, YieldsAt P ops o v a w) (h : Pend P ops w l (a.put o.dst v) b) : Pend P ops w (i :: l) a b

theorem Pend.snoc {w : World} {l : List Nat} {a b : Act} (h : Pend P ops w l a b) {i : Nat} {o : Oper} {v : Value} (ho : ops[i]? = some o) (hk : rawKind o.op ≠ 2) (hy : Firm P ops o v b w) (hp : rawKind o.op = 0 → ∀ w, YieldsAt P ops o v b w) :
    Pend P ops w (l ++ [i]) a (b.put o.dst v) := by
  induction h with
  | nil a => exact .cons ho hk hy hp (.nil _)
  | cons ho' hk' hy' hp' _ ih => exact .cons ho' hk' hy' hp' (ih hy hp)

theorem Pend.size {w : World} {l : List Nat} {a b : Act} (h : Pend P ops w l a b) : b.tmps.size = a.tmps.size := by
  induction h with
  | nil a => rfl
  | cons _ _ _ _ _ ih => rw [ih, put_size]

/-- One of them comes first. -/
theorem Pend.take (hsel : ∀ (j : Nat) (o : Oper) cs b, ops[j]? = some o → o.op ≠ .select cs b) {w : World} {i : Nat} {Y : List Nat} : ∀ {X : List Nat} {a b : Act}, Pend P ops w (X ++ i :: Y) a b → (∀ x ∈ X, ApartAt ops x i) →
    ∃ o v, ops[i]? = some o ∧ YieldsAt P ops o v a w ∧ Pend P ops w (X ++ Y) (a.put o.dst v) b
  | [], a, b, h, _ => by
    cases h with
    | cons ho hk hy hp h => exact ⟨_, _, ho, hy.here, h⟩
  | x :: X, a, b, h, hap => by
    cases h with
    | cons ho hk hy hp h =>
      rename_i ox vx
      obtain ⟨o, v, g1, g2, g3⟩ := Pend.take hsel h fun y hy => hap y (by simp [hy])
      obtain ⟨ox', oi', e1, e2, e3⟩ := hap x (by simp)
      rw [ho] at e1
      rw [g1] at e2
      simp at e1 e2
      subst e1; subst e2
      obtain ⟨h1, h2, h3⟩ := Oper.apart_spec e3
      refine ⟨o, v, g1, g2.of_same (execOp_put o (fun cs b => hsel i o cs b g1) a ox.dst vx h1).symm (wanted_put o a ox.dst vx h1).symm, ?_⟩
      have same : ∀ w, YieldsAt P ops ox vx a w → YieldsAt P ops ox vx (a.put o.dst v) w := fun w hh =>
        hh.of_same (execOp_put ox (fun cs b => hsel x ox cs b ho) a o.dst v h3) (wanted_put ox a o.dst v h3)
      obtain ⟨S, hS1, hS2⟩ := hy
      refine .cons ho hk ⟨S, hS1, fun w' hw' => same w' (hS2 w' hw')⟩ (fun h0 w => same w (hp h0 w)) ?_
      rw [← Act.put_comm a vx v h2]
      exact g3

/-- What they leave be. -/
theorem Pend.keeps {w : World} {l : List Nat} {a b : Act} (h : Pend P ops w l a b) {o : Oper} (hs : ∀ cs b, o.op ≠ .select cs b) (hap : ∀ y ∈ l, ∀ oy, ops[y]? = some oy → ∀ d, oy.dst = some d → d ∉ o.looksAt ops) :
    execOp b.eval o = execOp a.eval o ∧ Region.wanted o (yielded ops b.tmps) = Region.wanted o (yielded ops a.tmps) := by
  induction h with
  | nil a => exact ⟨rfl, rfl⟩
  | @cons i oi v l a b ho hk hy hp h ih =>
    obtain ⟨h1, h2⟩ := ih fun y hy => hap y (by simp [hy])
    have hd := hap i (by simp) oi ho
    exact ⟨h1.trans (execOp_put o hs a oi.dst v hd), h2.trans (wanted_put o a oi.dst v hd)⟩
theorem Pend.get {w : World} {l : List Nat} {a b : Act} (h : Pend P ops w l a b) {d : Nat} (hd : ∀ y ∈ l, ∀ oy, ops[y]? = some oy → oy.dst ≠ some d) : b.tmps.getD d undef = a.tmps.getD d undef := by
  induction h with
  | nil a => rfl
  | @cons i oi v l a b ho hk hy hp h ih =>
    rw [ih fun y hy => hd y (by simp [hy])]
    have hne := hd i (by simp) oi ho
    cases hdst : oi.dst with
    | none => rfl
    | some t =>
      have : t ≠ d := fun he => hne (by rw [hdst, he])
      simp [Act.put, Array.getElem?_setIfInBounds_ne this]

/-- What a load that is looked at once more tells. -/
def Told (P : Program) (ops : Array Oper) (b : Act) (w : World) (r : Nat) : Prop :=
  ∃ o t, ops[r]? = some o ∧ o.dst = some t ∧ t < b.tmps.size ∧ t ∉ o.looksAt ops ∧ (Region.wanted o (yielded ops b.tmps) = true → ∃ blk, blk < w.heap.size ∧ ∀ w' : World, w'.heap[blk]? = w.heap[blk]? → (execOp b.eval o).run P w' = .ok (.value (b.tmps.getD t undef)) w')

/-- Memory turns before they come. -/
theorem Pend.shift (hsel : ∀ (j : Nat) (o : Oper) cs b, ops[j]? = some o → o.op ≠ .select cs b) {w w' : World} {l : List Nat} {a b : Act} (h : Pend P ops w l a b) {oi : Oper} {v : Value}
    (hap : ∀ y ∈ l, ∃ oy, ops[y]? = some oy ∧ oy.apart ops oi = true)
    (hsz : w.heap.size ≤ w'.heap.size)
    (hr : ∀ X y Y, l = X ++ y :: Y → kindAt ops y = 1 → (∀ k, k < w.heap.size → w'.heap[k]? = w.heap[k]?) ∨ (Told P ops (b.put oi.dst v) w' y ∧ ∀ z ∈ Y, KeepsAt ops y z)) :
    Pend P ops w' l (a.put oi.dst v) (b.put oi.dst v) := by
  induction h with
  | nil a => exact .nil _
  | @cons i o u l a b ho hk hy hp h ih =>
    have ih := ih (fun y hy => hap y (by simp [hy])) fun X y Y hl => hr (i :: X) y Y (by rw [hl]; rfl)
    obtain ⟨o', e1, e2⟩ := hap i (by simp)
    rw [ho] at e1
    simp at e1
    subst e1
    obtain ⟨h1, h2, h3⟩ := Oper.apart_spec e2
    have hso : ∀ cs b, o.op ≠ .select cs b := fun cs b => hsel i o cs b ho
    have ex := execOp_put (ops := ops) o hso a oi.dst v h3
    have wt := wanted_put (ops := ops) o a oi.dst v h3
    have hcomm := Act.put_comm a u v h2
    have old : ∀ w, YieldsAt P ops o u a w → YieldsAt P ops o u (a.put oi.dst v) w := fun w hh => hh.of_same ex wt
    by_cases hk0 : rawKind o.op = 0
    · exact .cons ho hk (Firm.any fun w => old _ (hp hk0 w)) (fun h0 w => old _ (hp h0 w)) (by rw [← hcomm]; exact ih)
    · have hk1 : rawKind o.op = 1 := by
        revert hk hk0
        generalize o.op = op
        unfold rawKind
        split <;> simp
      refine .cons ho hk ?_ (fun h0 => absurd h0 hk0) (by rw [← hcomm]; exact ih)
      have oldF : Firm P ops o u (a.put oi.dst v) w := by
        obtain ⟨S, hS1, hS2⟩ := hy
        exact ⟨S, hS1, fun w' hw' => old w' (hS2 w' hw')⟩
      rcases hr [] i l rfl (by simp [kindAt, ho, hk1]) with hkeep | ⟨⟨o', t, q1, q2, q3, q4, q5⟩, q6⟩
      · exact oldF.keep hsz hkeep
      rcases hy.here with ⟨hw, hrun⟩ | ⟨hw, hu⟩
      · rw [ho] at q1
        simp at q1
        subst q1
        -- from here to the end nothing touches what it looks at, nor its place
        have k1 : execOp (a.put o.dst u).eval o = execOp a.eval o := execOp_put (ops := ops) o hso a o.dst u fun d hd => by rw [q2] at hd; simp at hd; exact hd ▸ q4
        have k1w : Region.wanted o (yielded ops (a.put o.dst u).tmps) = Region.wanted o (yielded ops a.tmps) := wanted_put o a o.dst u fun d hd => by rw [q2] at hd; simp at hd; exact hd ▸ q4
        have hz : ∀ z ∈ l, ∀ oz, ops[z]? = some oz → ∀ d, oz.dst = some d → d ∉ o.looksAt ops ∧ o.dst ≠ some d := fun z hz oz hoz => by
          obtain ⟨ox, oy, e1, e2, e3⟩ := q6 z hz
          rw [ho] at e1
          rw [hoz] at e2
          simp at e1 e2
          subst e1; subst e2
          exact e3
        obtain ⟨k2, k2w⟩ := h.keeps hso fun z hzl oz hoz d hd => (hz z hzl oz hoz d hd).1
        have k3 := execOp_put (ops := ops) o hso b oi.dst v h3
        have k3w := wanted_put (ops := ops) o b oi.dst v h3
        have hget : (b.put oi.dst v).tmps.getD t undef = u := by
          have g1 : (b.put oi.dst v).tmps.getD t undef = b.tmps.getD t undef := by
            cases hdst : oi.dst with
            | none => rfl
            | some s =>
              have : s ≠ t := fun he => h2 t q2 (by rw [hdst, he])
              simp [Act.put, Array.getElem?_setIfInBounds_ne this]
          rw [g1, h.get fun z hzl oz hoz hd => (hz z hzl oz hoz t hd).2 q2, q2]
          have hsz : t < a.tmps.size := by
            rw [put_size, h.size, put_size] at q3
            exact q3
          rw [put_get hsz, if_pos rfl]
        have hw' : Region.wanted o (yielded ops (b.put oi.dst v).tmps) = true := by rw [k3w, k2w, k1w]; exact hw
        obtain ⟨blk, q7, q8⟩ := q5 hw'
        refine ⟨fun k => k = blk, fun k hk => hk ▸ q7, fun w'' hw'' => .inl ⟨by rw [wt]; exact hw, ?_⟩⟩
        rw [ex, ← k1, ← k2, ← k3, q8 w'' (hw'' blk rfl), hget]
      · exact Firm.any fun _ => .inr ⟨by rw [wt]; exact hw, hu⟩
end orders
end Dt
