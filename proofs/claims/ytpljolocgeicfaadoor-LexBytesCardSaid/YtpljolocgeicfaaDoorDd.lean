/- A part of the abstract machine and of the proof that the program does what it reckons; no conditions. -/
import Derived.Test.YtpljolocgeicfaaDoorDc
namespace Dt
open Go Go.RowKit
/-- The real cells that stand for some of the abstract ones. -/
theorem cells_list {ρ : Env} (c : Array Value) : ∀ (cs : List AVal) (o : Nat), (∀ (j : Nat) (x : AVal), cs[j]? = some x → ∃ v, c[o + j]? = some v ∧ v.oneCell' = true ∧ VRel ρ x v) →
    ∃ us : List Value, us.length = cs.length ∧ VRels ρ cs us ∧ (∀ u ∈ us, u.oneCell' = true) ∧ ∀ (j : Nat) (u : Value), us[j]? = some u → c[o + j]? = some u
  | [], _, _ => ⟨[], rfl, .nil, by simp, by simp⟩
  | x :: cs, o, h => by
    obtain ⟨v, hv, h1, hr⟩ := h 0 x rfl
    obtain ⟨us, hl, hs, ho, hc⟩ := cells_list c cs (o + 1) (fun j y hy => by
      have := h (j + 1) y (by simpa using hy)
      rwa [show o + (j + 1) = o + 1 + j from by omega] at this)
    refine ⟨v :: us, by simp [hl], .cons hr hs, fun u hu => ?_, fun j u hu => ?_⟩
    · rcases List.mem_cons.1 hu with rfl | hu
      · exact h1
      · exact ho u hu
    · cases j with
      | zero => simp at hu; subst hu; simpa using hv
      | succ j => rw [show o + (j + 1) = o + 1 + j from by omega]; exact hc j u (by simpa using hu)

theorem VRels.of_get {ρ : Env} {x : List AVal} {v : List Value} (h : VRels ρ x v) (i : Nat) : VRel ρ (lget x i) (v[i]?.getD undef) := by
  rw [lget_eq]
  have hl := h.length
  rcases Nat.lt_or_ge i x.length with hlt | hge
  · have : x[i]? = some x[i] := List.getElem?_eq_getElem hlt
    obtain ⟨u, hu, hr⟩ := h.get i _ this
    rw [this, hu]
    exact hr
  · rw [List.getElem?_eq_none hge, List.getElem?_eq_none (by omega)]
    exact .tup .nil

/-! ### The frame -/

/-- The temporaries: 'vm' lists those that have a place of their own, 'names' those that the region has made so far, the last one first. -/
structure ERel (ρ : Env) (vm names : List Nat) (N : Nat) (vs ts : List AVal) (a : Act) : Prop where
  size : N ≤ a.tmps.size
  vars : ∀ i t, vm[i]? = some t → VRel ρ (lget vs i) (a.tmps.getD t undef)
  tmps : ∀ i t, names[i]? = some t → VRel ρ (lget ts i) (a.tmps.getD t undef)
  len : vs.length = vm.length
  nodefer : a.defers = []

theorem ERel.mono {ρ ρ' : Env} (h : ∀ b R, ρ b = some R → ρ' b = some R) {vm names : List Nat} {N : Nat} {vs ts : List AVal} {a : Act} (e : ERel ρ vm names N vs ts a) : ERel ρ' vm names N vs ts a :=
  ⟨e.size, fun i t ht => (e.vars i t ht).mono h, fun i t ht => (e.tmps i t ht).mono h, e.len, e.nodefer⟩
theorem ERel.forget {ρ : Env} {vm names : List Nat} {N : Nat} {vs ts : List AVal} {a : Act} (e : ERel ρ vm names N vs ts a) (ts' : List AVal) : ERel ρ vm [] N vs ts' a :=
  ⟨e.size, e.vars, fun i t ht => by simp at ht, e.len, e.nodefer⟩

theorem findT_some {t : Nat} : ∀ {l : List Nat} {i j : Nat}, findT t l i = some j → ∃ k, j = i + k ∧ l[k]? = some t
  | [], _, _, h => by simp [findT] at h
  | u :: l, i, j, h => by
    simp only [findT] at h
    split at h
    · rename_i hu
      simp at h hu
      exact ⟨0, by omega, by simp [hu]⟩
    · obtain ⟨k, hk, hl⟩ := findT_some h
      exact ⟨k + 1, by omega, by simpa using hl⟩
theorem findT_none {t : Nat} : ∀ {l : List Nat} {i : Nat}, findT t l i = none → t ∉ l
  | [], _, _ => by simp
  | u :: l, i, h => by
    simp only [findT] at h
    split at h
    · cases h
    · rename_i hu
      have := findT_none h
      simp at hu ⊢
      exact ⟨fun e => hu e.symm, this⟩

theorem cVal1_rel {ρ : Env} {v : Value} {x : AVal} (h : cVal1 v = some x) : VRel ρ x v ∧ v.oneCell' = true := by
  unfold cVal1 at h
  split at h <;> simp at h <;> subst h <;> (refine ⟨?_, rfl⟩; constructor)
theorem cVals_rel {ρ : Env} : ∀ {v : List Value} {x : List AVal}, cVals v = some x → VRels ρ x v ∧ ∀ u ∈ v, u.oneCell' = true
  | [], x, h => by simp [cVals] at h; subst h; exact ⟨.nil, by simp⟩
  | u :: v, x, h => by
    simp only [cVals] at h
    split at h
    · rename_i y ys h1 h2
      simp at h
      subst h
      obtain ⟨a, b⟩ := cVal1_rel (ρ := ρ) h1
      obtain ⟨c, d⟩ := cVals_rel (ρ := ρ) h2
      exact ⟨.cons a c, fun z hz => (List.mem_cons.1 hz).elim (fun e => e ▸ b) (d z)⟩
    · cases h
theorem cVal_rel {ρ : Env} {v : Value} {x : AVal} (h : cVal v = some x) : VRel ρ x v := by
  unfold cVal at h
  split at h
  · rename_i cs
    cases hc : cVals cs.toList with
    | none => rw [hc] at h; cases h
    | some l =>
      rw [hc] at h
      simp at h
      subst h
      obtain ⟨a, b⟩ := cVals_rel (ρ := ρ) hc
      have := VRel.agg a b
      simpa using this
  · exact (cVal1_rel h).1

theorem opd_rel {ρ : Env} {vm names : List Nat} {N : Nat} {vs ts : List AVal} {a : Act} (e : ERel ρ vm names N vs ts a) {x : Operand} {y : Opd} (h : cOpd vm names x = some y) :
    VRel ρ (y.get vs ts) (a.eval x) := by
  cases x with
  | tmp t =>
    simp only [cOpd] at h
    split at h
    · rename_i i hi
      simp at h; subst h
      obtain ⟨k, hk, hl⟩ := findT_some hi
      have : i = k := by omega
      subst this
      exact e.tmps i t hl
    · split at h
      · rename_i i hi
        simp at h; subst h
        obtain ⟨k, hk, hl⟩ := findT_some hi
        have : i = k := by omega
        subst this
        exact e.vars i t hl
      · cases h
  | const v =>
    simp only [cOpd, Option.map_eq_some_iff] at h
    obtain ⟨x, hx, rfl⟩ := h
    exact cVal_rel hx
  | func f =>
    simp only [cOpd, Option.some.injEq] at h
    subst h
    exact .fn f .nil .nil
  | global g =>
    simp only [cOpd, Option.some.injEq] at h
    subst h
    exact .gp g 0

theorem opds_rel {ρ : Env} {vm names : List Nat} {N : Nat} {vs ts : List AVal} {a : Act} (e : ERel ρ vm names N vs ts a) : ∀ {x : List Operand} {y : List Opd}, cOpds vm names x = some y →
    VRels ρ (opds vs ts y) (x.map a.eval)
  | [], y, h => by simp [cOpds] at h; subst h; exact .nil
  | x :: l, y, h => by
    simp only [cOpds] at h
    split at h
    · rename_i u us h1 h2
      simp at h; subst h
      exact .cons (opd_rel e h1) (opds_rel e h2)
    · cases h

/-! ### Memory: reading and writing it -/

theorem row_cells {ρ : Env} {w : World} {R : RB} {z : Nat} {l : List (List AVal)} (h : BRel ρ w R (.rows z l)) {r : Nat} {row : List AVal} (hr : l[r]? = some row) {c n : Nat} {cs : List AVal} (hc : cut row c n = some cs) :
    ∃ us : List Value, us.length = n ∧ VRels ρ cs us ∧ (∀ u ∈ us, u.oneCell' = true) ∧ ∀ (j : Nat) (u : Value), us[j]? = some u → w.cell? ((⟨R.blk, R.off + r * R.esz + c, none⟩ : Addr).add j) = some u := by
  obtain ⟨h1, h2, h3, h4, arr, et, h5, h6, h7⟩ := h
  obtain ⟨hcs, _, hlen⟩ := cut_eq _ _ _ _ hc
  obtain ⟨us, hl, hs, ho, hcell⟩ := cells_list (ρ := ρ) arr cs (R.off + r * R.esz + c) (fun j x hx => by
    have hx' : row[c + j]? = some x := by
      rw [hcs, List.getElem?_take] at hx
      split at hx
      · rw [List.getElem?_drop] at hx; exact hx
      · cases hx
    have := h7 r row hr (c + j) x hx'
    rwa [← Nat.add_assoc] at this)
  refine ⟨us, hl.trans hlen, hs, ho, fun j u hu => ?_⟩
  rw [Addr.add_lit, cell_of_row w R.blk _ arr et (0, 0) h5]
  exact hcell j u hu

/-- The cells of a table. -/
theorem table_cells {ρ : Env} {w : World} {gl : List (List AVal)} (h : GRel w gl) {g c n : Nat} {cs : List AVal} (hc : gcut gl g c n = some cs) :
    ∃ us : List Value, us.length = n ∧ VRels ρ cs us ∧ (∀ u ∈ us, u.oneCell' = true) ∧ g < w.heap.size ∧ ∀ (j : Nat) (u : Value), us[j]? = some u → w.cell? ((⟨g, c, none⟩ : Addr).add j) = some u := by
  unfold gcut at hc
  rw [rget_eq] at hc
  cases hr : gl[g]? with
  | none => rw [hr] at hc; cases hc
  | some row =>
    rw [hr] at hc
    simp only at hc
    obtain ⟨arr, et, fz, h1, h2⟩ := h g row hr
    obtain ⟨hcs, _, hlen⟩ := cut_eq _ _ _ _ hc
    obtain ⟨us, hl, hs, ho, hcell⟩ := cells_list (ρ := ρ) arr cs c (fun j x hx => by
      have hx' : row[c + j]? = some x := by
        rw [hcs, List.getElem?_take] at hx
        split at hx
        · rw [List.getElem?_drop] at hx; exact hx
        · cases hx
      obtain ⟨v, hv, h1, hr⟩ := h2 (c + j) x hx'
      exact ⟨v, hv, h1, hr.mono fun b R e => by cases e⟩)
    refine ⟨us, hl.trans hlen, hs, ho, ?_, fun j u hu => ?_⟩
    · exact (Array.getElem?_eq_some_iff.1 h1).1
    · rw [Addr.add_lit, cell_of_row w g _ arr et fz h1]
      exact hcell j u hu
end Dt
