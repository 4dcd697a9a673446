/- A part of the abstract machine and of the proof that the program does what it reckons; no conditions. -/
import Derived.Test.YtpljolocgeicfaaDoorDm
namespace Dt
open Go Go.RowKit
/-! ### Any order -/
section any
variable {R : Type} {A : Alg R} {P : Program} {call : Nat → List AVal → Heap → (AVal → Heap → R) → R} {vm : List Nat} {N : Nat} {ops : Array Oper} {K : List AVal → List AVal → Heap → R} {names' : List Nat} {ρ0 : Env} {H0 : Heap} {w0 : World}

def opsCount : List It → Nat
  | [] => 0
  | .op _ :: l => opsCount l + 1
  | .again _ :: l => opsCount l

/-- What holds between x before y, both yet to come. -/
def Before (ops : Array Oper) (seen : List Nat) (x y : Nat) : Prop := (Anc ops x y ∨ ApartAt ops x y) ∧ ¬ Edge ops y x ∧ y ∈ seen.takeWhile (· != x)

/-- Where a region stands: 'listed' has been done; 'Pd' has been reckoned and is yet to be done, which leads from 'a' to 'b'; 'items' are yet to be reckoned, from 'b' on. -/
structure State (P : Program) (A : Alg R) (call : Nat → List AVal → Heap → (AVal → Heap → R) → R) (vm : List Nat) (N : Nat) (ops : Array Oper) (K : List AVal → List AVal → Heap → R) (names' : List Nat) (ρ0 : Env) (H0 : Heap) (w0 : World)
    (listed : Array Bool) (a : Act) (w : World) (Pd seen : List Nat) (items : List It) (names : List Nat) (b : Act) (vs ts : List AVal) (ds : List DO) (H : Heap) (ρ : Env) : Prop where
  size : listed.size = ops.size
  closed : ∀ i x, Edge ops x i → listed.getD i false = true → listed.getD x false = true
  done : ∀ i, i < ops.size → (listed.getD i false = true ↔ i ∈ seen ∧ i ∉ Pd)
  inside : ∀ i ∈ seen, i < ops.size
  sub : ∀ i ∈ Pd, i ∈ seen
  nodup : Pd.Nodup
  seenClosed : ∀ i ∈ seen, ∀ x, Edge ops x i → x ∈ seen
  order : Pd.Pairwise (Before ops seen)
  irr : ∀ x ∈ Pd, ¬ Edge ops x x
  pend : Pend P ops w Pd a b
  comp : cOrd P vm N ops names items = some (ds, names')
  good : Good ops seen items
  env : ERel ρ vm names N vs ts b
  heap : HRel ρ H w
  holds : A.holds (evOps A call ds vs ts H K)
  step : Step ρ0 H0 w0 ρ H w

theorem Before.mono {seen : List Nat} {i x y : Nat} (hi : i ≠ x) (h : Before ops seen x y) : Before ops (i :: seen) x y := by
  refine ⟨h.1, h.2.1, ?_⟩
  rw [List.takeWhile_cons, if_pos (by simpa using hi)]
  exact List.mem_cons_of_mem _ h.2.2

theorem anc_listed {listed : Array Bool} (hc : ∀ i x, Edge ops x i → listed.getD i false = true → listed.getD x false = true) {x i : Nat} (h : Anc ops x i) (hi : ∀ y, Edge ops y i → listed.getD y false = true) : listed.getD x false = true := by
  induction h with
  | one h => exact hi _ h
  | more h _ ih => exact ih fun y hy => hc _ _ hy (hi _ h)

variable {listed : Array Bool} {a : Act} {w : World} {Pd seen : List Nat} {items : List It} {names : List Nat} {b : Act} {vs ts : List AVal} {ds : List DO} {H : Heap} {ρ : Env}

/-- One that turns nothing is reckoned ahead. -/
theorem State.ahead (hvm : vm.Nodup) {i : Nat} (hk : kindAt ops i ≠ 2) (s : State P A call vm N ops K names' ρ0 H0 w0 listed a w Pd seen (.op i :: items) names b vs ts ds H ρ) :
    ∃ names1 b1 vs1 ts1 ds1, State P A call vm N ops K names' ρ0 H0 w0 listed a w (Pd ++ [i]) (i :: seen) items names1 b1 vs1 ts1 ds1 H ρ := by
  obtain ⟨⟨o, ho⟩, hns, hedge, hord, _, _, hgood⟩ := s.good
  have hc := s.comp
  simp only [cOrd, ho] at hc
  cases hco : cOper P vm N ops names o with
  | none => rw [hco] at hc; cases hc
  | some p =>
    obtain ⟨d, names1⟩ := p
    rw [hco] at hc
    simp only at hc
    cases hcl : cOrd P vm N ops names1 items with
    | none => rw [hcl] at hc; cases hc
    | some q =>
      obtain ⟨ds1, names2⟩ := q
      rw [hcl] at hc
      simp at hc
      obtain ⟨rfl, rfl⟩ := hc
      have hko : rawKind o.op ≠ 2 := by simpa [kindAt, ho] using hk
      obtain ⟨v, vs1, ts1, h1, h2, h3, h4⟩ := step_quiet hvm s.env s.heap hko hco s.holds
      have hlt : i < ops.size := (Array.getElem?_eq_some_iff.1 ho).1
      have hne : ∀ x ∈ seen, i ≠ x := fun x hx he => hns (he ▸ hx)
      refine ⟨names1, b.put o.dst v, vs1, ts1, ds1, ⟨s.size, s.closed, fun j hj => ?_, fun j hj => ?_, fun j hj => ?_, ?_, fun j hj x hx => ?_, ?_, fun x hx => ?_, s.pend.snoc ho hko h3 h4, hcl, hgood, h2, s.heap, h1, s.step⟩⟩
      · rw [s.done j hj]
        by_cases hji : j = i
        · subst hji
          simp [hns]
        · simp [hji]
      · rcases List.mem_cons.1 hj with rfl | hj
        · exact hlt
        · exact s.inside j hj
      · rcases List.mem_append.1 hj with hj | hj
        · exact List.mem_cons_of_mem _ (s.sub j hj)
        · exact List.mem_cons.2 (.inl (by simpa using hj))
      · refine List.nodup_append.2 ⟨s.nodup, by simp, fun x hx y hy => ?_⟩
        have : y = i := by simpa using hy
        subst this
        exact fun he => hns (he ▸ s.sub x hx)
      · rcases List.mem_cons.1 hj with rfl | hj
        · exact List.mem_cons_of_mem _ (hedge x hx)
        · exact List.mem_cons_of_mem _ (s.seenClosed j hj x hx)
      · rw [List.pairwise_append]
        refine ⟨s.order.imp_of_mem fun {x y} hx _ h => h.mono (hne x (s.sub x hx)), by simp, fun x hx y hy => ?_⟩
        have : y = i := by simpa using hy
        subst this
        refine ⟨hord x (s.sub x hx), fun he => hns (s.seenClosed x (s.sub x hx) _ he), ?_⟩
        rw [List.takeWhile_cons, if_pos (by simpa using hne x (s.sub x hx))]
        simp
      · rcases List.mem_append.1 hx with hx | hx
        · exact s.irr x hx
        · have : x = i := by simpa using hx
          subst this
          exact fun he => hns (hedge x he)

/-- A second look is dropped. -/
theorem State.drop {i : Nat} (s : State P A call vm N ops K names' ρ0 H0 w0 listed a w Pd seen (.again i :: items) names b vs ts ds H ρ) :
    ∃ ds1, State P A call vm N ops K names' ρ0 H0 w0 listed a w Pd seen items names b vs ts ds1 H ρ := by
  obtain ⟨_, ⟨o, _, ho, _, _⟩, _, hgood⟩ := s.good
  have hc := s.comp
  simp only [cOrd, ho] at hc
  cases hca : cAgain P vm N ops names o with
  | none => rw [hca] at hc; cases hc
  | some d =>
    rw [hca] at hc
    cases hcl : cOrd P vm N ops names items with
    | none => rw [hcl] at hc; cases hc
    | some q =>
      obtain ⟨ds1, names2⟩ := q
      rw [hcl] at hc
      simp at hc
      obtain ⟨rfl, rfl⟩ := hc
      exact ⟨ds1, ⟨s.size, s.closed, s.done, s.inside, s.sub, s.nodup, s.seenClosed, s.order, s.irr, s.pend, hcl, hgood, s.env, s.heap, (step_again s.env s.heap hca s.holds).1, s.step⟩⟩

/-- The list begins with what may turn memory, or is at its end. -/
def Ready2 (ops : Array Oper) : List It → Prop
  | [] => True
  | .op i :: _ => kindAt ops i = 2
  | .again _ :: _ => False

theorem State.norm (hvm : vm.Nodup) : ∀ (items : List It) (Pd seen names : List Nat) (b : Act) (vs ts : List AVal) (ds : List DO), State P A call vm N ops K names' ρ0 H0 w0 listed a w Pd seen items names b vs ts ds H ρ →
    ∃ Pd1 seen1 items1 names1 b1 vs1 ts1 ds1, State P A call vm N ops K names' ρ0 H0 w0 listed a w Pd1 seen1 items1 names1 b1 vs1 ts1 ds1 H ρ ∧ Ready2 ops items1 ∧ Pd1.length + opsCount items1 = Pd.length + opsCount items
  | [], Pd, seen, names, b, vs, ts, ds, s => ⟨Pd, seen, [], names, b, vs, ts, ds, s, trivial, rfl⟩
  | .again i :: items, Pd, seen, names, b, vs, ts, ds, s => by
    obtain ⟨ds1, s1⟩ := s.drop
    exact State.norm hvm items Pd seen names b vs ts ds1 s1
  | .op i :: items, Pd, seen, names, b, vs, ts, ds, s => by
    by_cases hk : kindAt ops i = 2
    · exact ⟨Pd, seen, .op i :: items, names, b, vs, ts, ds, s, hk, rfl⟩
    · obtain ⟨names1, b1, vs1, ts1, ds1, s1⟩ := s.ahead hvm hk
      obtain ⟨Pd2, seen2, items2, names2, b2, vs2, ts2, ds2, s2, h1, h2⟩ := State.norm hvm items _ _ _ _ _ _ _ s1
      refine ⟨Pd2, seen2, items2, names2, b2, vs2, ts2, ds2, s2, h1, ?_⟩
      rw [h2, List.length_append]
      simp only [opsCount, List.length_singleton]
      omega

/-- What the second looks tell. -/
theorem told_all : ∀ {items : List It} {ds : List DO} {seen : List Nat}, cOrd P vm N ops names items = some (ds, names') → Good ops seen items → ERel ρ vm names N vs ts b → HRel ρ H w → A.holds (evOps A call ds vs ts H K) →
    ∀ r ∈ againsOf items, Told P ops b w r ∧ ∀ x ∈ seen.takeWhile (· != r), KeepsAt ops r x
  | [], _, _, _, _, _, _, _, r, hr => by simp [againsOf] at hr
  | .op i :: _, _, _, _, _, _, _, _, r, hr => by simp [againsOf] at hr
  | .again i :: items, ds, seen, hc, hg, he, hH, hh, r, hr => by
    obtain ⟨_, ⟨o, t, ho, ht, hl⟩, hap, hgood⟩ := hg
    simp only [cOrd, ho] at hc
    cases hca : cAgain P vm N ops names o with
    | none => rw [hca] at hc; cases hc
    | some d =>
      rw [hca] at hc
      cases hcl : cOrd P vm N ops names items with
      | none => rw [hcl] at hc; cases hc
      | some q =>
        obtain ⟨ds1, names2⟩ := q
        rw [hcl] at hc
        simp at hc
        obtain ⟨hc1, hc2⟩ := hc
        subst hc1
        rw [hc2] at hcl
        obtain ⟨h1, t', h2, h3, h4⟩ := step_again he hH hca hh
        simp only [againsOf, List.mem_cons] at hr
        rcases hr with rfl | hr
        · rw [ht] at h2
          simp at h2
          subst h2
          exact ⟨⟨o, t, ho, ht, Nat.lt_of_lt_of_le h3 he.size, hl, h4⟩, hap⟩
        · exact told_all hcl hgood he hH h1 r hr

theorem good_later {i : Nat} : ∀ {items : List It} {seen : List Nat}, Good ops seen items → It.op i ∈ items → ∀ x ∈ seen, kindAt ops x = 2 → Anc ops x i
  | [], _, _, h, _, _, _ => by simp at h
  | .op j :: items, seen, hg, h, x, hx, hk => by
    obtain ⟨_, _, _, _, h5, _, hgood⟩ := hg
    rcases List.mem_cons.1 h with h | h
    · simp at h; subst h; exact h5 x hx hk
    · exact good_later hgood h x (List.mem_cons_of_mem _ hx) hk
  | .again j :: items, seen, hg, h, x, hx, hk => by
    obtain ⟨_, _, _, hgood⟩ := hg
    rcases List.mem_cons.1 h with h | h
    · cases h
    · exact good_later hgood h x hx hk
theorem good_all : ∀ {items : List It} {seen : List Nat}, Good ops seen items → ∀ i, i < ops.size → i ∈ seen ∨ It.op i ∈ items
  | [], _, hg, i, hi => .inl (hg i hi)
  | .op j :: items, seen, hg, i, hi => by
    obtain ⟨_, _, _, _, _, _, hgood⟩ := hg
    rcases good_all hgood i hi with h | h
    · rcases List.mem_cons.1 h with rfl | h
      · exact .inr (by simp)
      · exact .inl h
    · exact .inr (List.mem_cons_of_mem _ h)
  | .again j :: items, seen, hg, i, hi => by
    obtain ⟨_, _, _, hgood⟩ := hg
    rcases good_all hgood i hi with h | h
    · exact .inl h
    · exact .inr (List.mem_cons_of_mem _ h)

theorem good_count : ∀ {items : List It} {seen : List Nat}, Good ops seen items → seen.Nodup → (∀ i ∈ seen, i < ops.size) → seen.length + opsCount items = ops.size
  | [], seen, hg, hn, hl => by
    have h1 : seen.length ≤ (List.range ops.size).length := hn.length_le_of_subset fun i hi => List.mem_range.2 (hl i hi)
    have h2 : (List.range ops.size).length ≤ seen.length := List.nodup_range.length_le_of_subset fun i hi => hg i (List.mem_range.1 hi)
    simp only [List.length_range] at h1 h2
    simp only [opsCount]
    omega
  | .op j :: items, seen, hg, hn, hl => by
    obtain ⟨⟨o, ho⟩, hns, _, _, _, _, hgood⟩ := hg
    have := good_count hgood (List.nodup_cons.2 ⟨hns, hn⟩) fun i hi => by
      rcases List.mem_cons.1 hi with rfl | hi
      · exact (Array.getElem?_eq_some_iff.1 ho).1
      · exact hl i hi
    simp only [List.length_cons] at this
    simp only [opsCount]
    omega
  | .again j :: items, seen, hg, hn, hl => by
    obtain ⟨_, _, _, hgood⟩ := hg
    have := good_count hgood hn hl
    simpa only [opsCount] using this

theorem getD_tf {l : Array Bool} {i : Nat} (h : i < l.size) (d e : Bool) : l.getD i d = l.getD i e := by
  simp [h]

theorem ready_of {i : Nat} (hsz : listed.size = ops.size) (hi : i < ops.size) (hn : ¬ listed.getD i false = true) (he : ∀ x, Edge ops x i → listed.getD x false = true) : i ∈ Region.ready .any ops listed := by
  rw [mem_ready]
  refine ⟨?_, ops[i], Array.getElem?_eq_getElem hi, fun e hem hb => he _ ⟨ops[i], e, Array.getElem?_eq_getElem hi, hem, hb, rfl⟩⟩
  rw [getD_tf (by omega) true false]
  simpa using hn

theorem orders_sound (hcall : CallOk P A call) (hvm : vm.Nodup) (hsel : ∀ (j : Nat) (o : Oper) cs b, ops[j]? = some o → o.op ≠ .select cs b) {Q : Exit → Act → World → Prop}
    (hQ : ∀ vs ts H ρ a w, A.holds (K vs ts H) → ERel ρ vm names' N vs ts a → HRel ρ H w → Step ρ0 H0 w0 ρ H w → Q .normal a w) :
    ∀ (fuel : Nat) (listed : Array Bool) (a : Act) (w : World) (Pd seen : List Nat) (items : List It) (names : List Nat) (b : Act) (vs ts : List AVal) (ds : List DO) (H : Heap) (ρ : Env),
      State P A call vm N ops K names' ρ0 H0 w0 listed a w Pd seen items names b vs ts ds H ρ → Ready2 ops items → fuel = Pd.length + opsCount items → wpAny P .any ops Q fuel listed a w := by
  intro fuel
  induction fuel with
  | zero =>
    intro listed a w Pd seen items names b vs ts ds H ρ s hr hf
    have hPd : Pd = [] := List.length_eq_zero_iff.1 (by omega)
    subst hPd
    have hit : items = [] := by
      cases items with
      | nil => rfl
      | cons x l => cases x with
        | op i => simp only [opsCount] at hf; omega
        | again i => exact hr.elim
    subst hit
    have hab : a = b := by cases s.pend; rfl
    subst hab
    have hc := s.comp
    simp only [cOrd, Option.some.injEq, Prod.mk.injEq] at hc
    obtain ⟨rfl, rfl⟩ := hc
    refine ⟨?_, hQ _ _ _ _ _ _ s.holds s.env s.heap s.step⟩
    rw [List.eq_nil_iff_forall_not_mem]
    intro i hi
    rw [mem_ready] at hi
    obtain ⟨h1, o, ho, _⟩ := hi
    have hlt : i < ops.size := (Array.getElem?_eq_some_iff.1 ho).1
    have := (s.done i hlt).2 ⟨s.good i hlt, by simp⟩
    rw [getD_tf (by rw [s.size]; exact hlt) false true, h1] at this
    cases this
  | succ fuel ih =>
    intro listed a w Pd seen items names b vs ts ds H ρ s hr hf
    refine ⟨fun hno => ?_, fun i hi => ?_⟩
    · exfalso
      have none : ∀ i, i ∉ Region.ready .any ops listed := fun i => by rw [hno]; simp
      cases hPd : Pd with
      | cons x rest =>
        have hx : x ∈ Pd := by rw [hPd]; simp
        have hlt := s.inside x (s.sub x hx)
        refine none x (ready_of s.size hlt (fun h => ((s.done x hlt).1 h).2 hx) fun y hy => ?_)
        have hys := s.seenClosed x (s.sub x hx) y hy
        refine (s.done y (s.inside y hys)).2 ⟨hys, fun hyp => ?_⟩
        have hord := s.order
        rw [hPd] at hord hyp
        rcases List.mem_cons.1 hyp with rfl | hyp
        · exact s.irr y hx hy
        · exact ((List.pairwise_cons.1 hord).1 y hyp).2.1 hy
      | nil =>
        subst hPd
        cases items with
        | nil => simp [opsCount] at hf
        | cons x l => cases x with
          | again i => exact hr.elim
          | op i =>
            obtain ⟨⟨o, ho⟩, hns, hedge, _⟩ := s.good
            have hlt : i < ops.size := (Array.getElem?_eq_some_iff.1 ho).1
            refine none i (ready_of s.size hlt (fun h => hns ((s.done i hlt).1 h).1) fun y hy => ?_)
            have hys := hedge y hy
            exact (s.done y (s.inside y hys)).2 ⟨hys, by simp⟩
    · obtain ⟨h1, o, ho, h2⟩ := mem_ready.1 hi
      have hlt : i < ops.size := (Array.getElem?_eq_some_iff.1 ho).1
      have hnl : ¬ listed.getD i false = true := by
        rw [getD_tf (by rw [s.size]; exact hlt) false true, h1]
        simp
      have hedges : ∀ x, Edge ops x i → listed.getD x false = true := by
        rintro x ⟨o', e, ho', he, hb, rfl⟩
        rw [ho] at ho'
        simp at ho'
        subst ho'
        exact h2 e he hb
      have hancs : ∀ x, Anc ops x i → listed.getD x false = true := fun x hx => anc_listed s.closed hx hedges
      have hget : ∀ j, (listed.setIfInBounds i true).getD j false = if j = i then true else listed.getD j false := fun j => by
        by_cases hji : j = i
        · subst hji
          have hlt' : j < listed.size := by rw [s.size]; exact hlt
          simp [hlt']
        · rw [if_neg hji, getD_set_ne false (Ne.symm hji)]
      have hclosed : ∀ j x, Edge ops x j → (listed.setIfInBounds i true).getD j false = true → (listed.setIfInBounds i true).getD x false = true := fun j x hx hj => by
        rw [hget] at hj ⊢
        by_cases hxi : x = i
        · rw [if_pos hxi]
        · rw [if_neg hxi]
          by_cases hji : j = i
          · subst hji; exact hedges x hx
          · rw [if_neg hji] at hj; exact s.closed j x hx hj
      by_cases hp : i ∈ Pd
      · -- one of those that were reckoned ahead
        obtain ⟨X, Y, hXY⟩ := List.append_of_mem hp
        have hpend := s.pend
        rw [hXY] at hpend
        have hord := s.order
        have hnd := s.nodup
        rw [hXY] at hord hnd
        have hiX : i ∉ X := fun h => (List.nodup_append.1 hnd).2.2 i h i (by simp) rfl
        have hiY : i ∉ Y := (List.nodup_cons.1 (List.nodup_append.1 hnd).2.1).1
        obtain ⟨o', v, g1, g2, g3⟩ := hpend.take hsel fun x hx => by
          have hb := (List.pairwise_append.1 hord).2.2 x hx i (by simp)
          rcases hb.1 with h | h
          · have hxl := hancs x h
            have hxp : x ∈ Pd := by rw [hXY]; simp [hx]
            exact absurd hxp ((s.done x (s.inside x (s.sub x hxp))).1 hxl).2
          · exact h
        rw [ho] at g1
        simp at g1
        subst g1
        refine Does.wpOp ho (g2.does (Q := fun u w' => u = v ∧ w' = w) ⟨rfl, rfl⟩) ?_
        rintro u w' ⟨rfl, rfl⟩
        have hsl : (X ++ Y).Sublist Pd := by rw [hXY]; exact List.Sublist.append (List.Sublist.refl _) (List.sublist_cons_self _ _)
        refine ih _ _ _ (X ++ Y) seen items names b vs ts ds H ρ ⟨by simp [s.size], hclosed, fun j hj => ?_, s.inside, fun j hj => s.sub j (hsl.subset hj), s.nodup.sublist hsl, s.seenClosed, s.order.sublist hsl, fun x hx => s.irr x (hsl.subset hx), g3, s.comp, s.good, s.env, s.heap, s.holds, s.step⟩ hr ?_
        · rw [hget]
          by_cases hji : j = i
          · subst hji
            rw [if_pos rfl]
            simp [hiX, hiY, s.sub j hp]
          · rw [if_neg hji, s.done j hj, hXY]
            simp [hji]
        · have : Pd.length = (X ++ Y).length + 1 := by rw [hXY]; simp; omega
          omega
      · -- it is the next that turns memory
        have hns : i ∉ seen := fun h => hnl ((s.done i hlt).2 ⟨h, hp⟩)
        cases items with
        | nil => exact absurd (s.good i hlt) hns
        | cons x l => cases x with
          | again j => exact hr.elim
          | op j =>
            have hji : i = j := by
              by_cases hij : i = j
              · exact hij
              · exfalso
                obtain ⟨⟨oj, hoj⟩, hnsj, _, _, _, _, hgood⟩ := s.good
                rcases good_all hgood i hlt with h | h
                · rcases List.mem_cons.1 h with h | h
                  · exact hij h
                  · exact hns h
                · have := hancs j (good_later hgood h j (by simp) hr)
                  exact hnsj ((s.done j (Array.getElem?_eq_some_iff.1 hoj).1).1 this).1
            subst hji
            obtain ⟨_, _, hedge, hord, _, hreads, hgood⟩ := s.good
            have hc := s.comp
            simp only [cOrd, ho] at hc
            cases hco : cOper P vm N ops names o with
            | none => rw [hco] at hc; cases hc
            | some p =>
              obtain ⟨d, names1⟩ := p
              rw [hco] at hc
              simp only at hc
              cases hcl : cOrd P vm N ops names1 l with
              | none => rw [hcl] at hc; cases hc
              | some q =>
                obtain ⟨ds1, names2⟩ := q
                rw [hcl] at hc
                simp at hc
                obtain ⟨rfl, rfl⟩ := hc
                have hso : ∀ cs b, o.op ≠ .select cs b := fun cs b => hsel i o cs b ho
                have hapd : ∀ y ∈ Pd, ∃ oy, ops[y]? = some oy ∧ oy.apart ops o = true := fun y hy => by
                  rcases hord y (s.sub y hy) with h | h
                  · exact absurd hy ((s.done y (s.inside y (s.sub y hy))).1 (hancs y h)).2
                  · obtain ⟨oy, o', e1, e2, e3⟩ := h
                    rw [ho] at e2
                    simp at e2
                    subst e2
                    exact ⟨oy, e1, e3⟩
                obtain ⟨k1, k2⟩ := s.pend.keeps hso fun y hy oy hoy => by
                  obtain ⟨oy', e1, e2⟩ := hapd y hy
                  rw [hoy] at e1
                  simp at e1
                  subst e1
                  exact (Oper.apart_spec e2).1
                have hdoes := step_do hcall hvm s.env s.heap hco s.holds
                have hdoes' : Does P ops o a w fun v w' => ∃ vs' ts' H' ρ', A.holds (evOps A call ds1 vs' ts' H' K) ∧ ERel ρ' vm names1 N vs' ts' (b.put o.dst v) ∧ Step ρ H w ρ' H' w' ∧ (rawFresh o.op = true → ∀ k, k < w.heap.size → w'.heap[k]? = w.heap[k]?) := by
                  unfold Does at *
                  rw [← k1, ← k2]
                  exact hdoes
                refine Does.wpOp ho hdoes' ?_
                rintro v w' ⟨vs', ts', H', ρ', q1, q2, q3, q4⟩
                have htold := told_all hcl hgood q2 q3.rel q1
                have hpend : Pend P ops w' Pd (a.put o.dst v) (b.put o.dst v) := s.pend.shift hsel hapd q3.size fun X y Y hXY hky => by
                  have hy : y ∈ Pd := by rw [hXY]; simp
                  have hys := s.sub y hy
                  rcases hreads hr y hys hky with h | h | h
                  · exact absurd hy ((s.done y (s.inside y hys)).1 (hancs y h)).2
                  · exact .inl (q4 (by simpa [freshAt, ho] using h))
                  · obtain ⟨t1, t2⟩ := htold y h
                    refine .inr ⟨t1, fun z hz => t2 z ?_⟩
                    have hpw := s.order
                    rw [hXY] at hpw
                    have hb := (List.pairwise_cons.1 (List.pairwise_append.1 hpw).2.1).1 z hz
                    exact (hb.mono (i := i) (fun he => hns (by rw [he]; exact hys))).2.2
                have hst : State P A call vm N ops K names2 ρ0 H0 w0 (listed.setIfInBounds i true) (a.put o.dst v) w' Pd (i :: seen) l names1 (b.put o.dst v) vs' ts' ds1 H' ρ' := by
                  refine ⟨by simp [s.size], hclosed, fun j hj => ?_, fun j hj => ?_, fun j hj => List.mem_cons_of_mem _ (s.sub j hj), s.nodup, fun j hj x hx => ?_, ?_, s.irr, hpend, hcl, hgood, q2, q3.rel, q1, s.step.trans q3⟩
                  · rw [hget]
                    by_cases hji : j = i
                    · subst hji; simp [hp]
                    · rw [if_neg hji, s.done j hj]; simp [hji]
                  · rcases List.mem_cons.1 hj with rfl | hj
                    · exact hlt
                    · exact s.inside j hj
                  · rcases List.mem_cons.1 hj with rfl | hj
                    · exact List.mem_cons_of_mem _ (hedge x hx)
                    · exact List.mem_cons_of_mem _ (s.seenClosed j hj x hx)
                  · exact s.order.imp_of_mem fun {x y} hx _ h => h.mono fun he => hns (he ▸ s.sub x hx)
                obtain ⟨Pd2, seen2, items2, names3, b2, vs2, ts2, ds2, s2, m1, m2⟩ := State.norm hvm l _ _ _ _ _ _ _ hst
                refine ih _ _ _ Pd2 seen2 items2 names3 b2 vs2 ts2 ds2 H' ρ' s2 m1 ?_
                rw [m2]
                simp only [opsCount] at hf
                omega

/-- A region, whichever way it goes through its operations. -/
theorem region_sound (hm : P.follows .mixedOrders = true) (hcall : CallOk P A call) (hvm : vm.Nodup) {id : Nat} {draw : Bool} {items : List It} (hit : itemsOf ops draw = some items) {ds : List DO} (hc : cOrd P vm N ops [] items = some (ds, names'))
    {vs ts : List AVal} {H : Heap} {ρ : Env} {a : Act} {w : World} (e : ERel ρ vm [] N vs ts a) (hH : HRel ρ H w) (h : A.holds (evOps A call ds vs ts H K)) {Q : Exit → Act → World → Prop}
    (hQ : ∀ vs ts H' ρ' a' w', A.holds (K vs ts H') → ERel ρ' vm names' N vs ts a' → Step ρ H w ρ' H' w' → Q .normal a' w') : (Code.region id ops draw).wp P Q a w := by
  unfold itemsOf at hit
  cases draw with
  | true =>
    simp only [if_true] at hit
    split at hit
    · rename_i hchk
      simp only [Bool.and_eq_true] at hchk
      simp at hit
      rw [hit] at hchk
      have hgood := chk_good (known := []) (fun p hp => by cases hp) hchk.2
      refine wp_region_any hm ?_
      have hd := Step.drew hH (w.drawn + 1)
      have s0 : State P A call vm N ops K names' ρ H { w with drawn := w.drawn + 1 } (Array.replicate ops.size false) a { w with drawn := w.drawn + 1 } [] [] items [] a vs ts ds H ρ := by
        refine ⟨by simp, fun i x _ hi => ?_, fun i hi => ?_, by simp, by simp, by simp, by simp, by simp, by simp, .nil _, hc, hgood, e, hH.drew _, h, Step.refl (hH.drew _)⟩
        · simp only [Array.getD_eq_getD_getElem?, Array.getElem?_replicate] at hi
          split at hi <;> simp at hi
        · simp [hi]
      obtain ⟨Pd2, seen2, items2, names3, b2, vs2, ts2, ds2, s2, m1, m2⟩ := State.norm hvm items _ _ _ _ _ _ _ s0
      have hcount : ops.size = opsCount items := by
        have := good_count hgood (by simp) (by simp)
        simpa using this.symm
      refine orders_sound hcall hvm (Region.noSelect_spec hchk.1) (fun vs ts H' ρ' a' w' g1 g2 g3 g4 => hQ vs ts H' ρ' a' w' g1 g2 (hd.trans g4)) _ _ _ _ Pd2 seen2 items2 names3 b2 vs2 ts2 ds2 H ρ s2 m1 ?_
      rw [m2]
      simp [hcount]
    · cases hit
  | false =>
    simp only [Bool.false_eq_true, if_false] at hit
    simp at hit
    subst hit
    refine wp_region ?_
    have key : ∀ (l : List Nat) (names : List Nat) (ds : List DO) (vs ts : List AVal) (H1 : Heap) (ρ1 : Env) (a : Act) (w1 : World), cOrd P vm N ops names (l.map .op) = some (ds, names') → ERel ρ1 vm names N vs ts a → Step ρ H w ρ1 H1 w1 → A.holds (evOps A call ds vs ts H1 K) →
        wpOps P ops Q l a w1 := by
      intro l
      induction l with
      | nil =>
        intro names ds vs ts H1 ρ1 a w1 hc e st h
        simp only [List.map_nil, cOrd, Option.some.injEq, Prod.mk.injEq] at hc
        obtain ⟨rfl, rfl⟩ := hc
        simp only [wpOps]
        exact hQ _ _ _ _ _ _ h e st
      | cons i l ih =>
        intro names ds vs ts H1 ρ1 a w1 hc e st h
        simp only [List.map_cons, cOrd] at hc
        cases ho : ops[i]? with
        | none => rw [ho] at hc; cases hc
        | some o =>
          rw [ho] at hc
          simp only at hc
          cases hco : cOper P vm N ops names o with
          | none => rw [hco] at hc; cases hc
          | some p =>
            obtain ⟨d, names1⟩ := p
            rw [hco] at hc
            simp only at hc
            cases hcl : cOrd P vm N ops names1 (l.map .op) with
            | none => rw [hcl] at hc; cases hc
            | some q =>
              obtain ⟨ds1, names2⟩ := q
              rw [hcl] at hc
              simp at hc
              obtain ⟨rfl, rfl⟩ := hc
              rw [wpOps_cons]
              refine Does.wpOp ho (step_do hcall hvm e st.rel hco h) ?_
              rintro v w' ⟨vs', ts', H', ρ', q1, q2, q3, _⟩
              exact ih _ _ _ _ _ _ _ _ hcl q2 (st.trans q3) q1
    exact key _ _ _ _ _ _ _ _ _ hc e (Step.refl hH) h
end any
end Dt
