/- A part of the abstract machine and of the proof that the program does what it reckons; no conditions. -/
import Derived.Test.YtpljolocgeicfaaDoorDe
namespace Dt
open Go Go.RowKit
/-! ### Structs, arrays and slices that are written out -/

theorem setFold_get (us : List Value) : ∀ (off n : Nat) (cells : Array Value) (k : Nat),
    ((us.zipIdx n).foldl (fun cs (c, j) => cs.setIfInBounds (off + j) c) cells)[k]? = if off + n ≤ k ∧ k < off + n + us.length ∧ k < cells.size then us[k - (off + n)]? else cells[k]? := by
  induction us with
  | nil => intro off n cells k; simp; omega
  | cons u us ih =>
    intro off n cells k
    simp only [List.zipIdx_cons, List.foldl_cons]
    rw [ih off (n + 1) (cells.setIfInBounds (off + n) u) k]
    simp only [Array.size_setIfInBounds, List.length_cons]
    by_cases h1 : off + (n + 1) ≤ k ∧ k < off + (n + 1) + us.length ∧ k < cells.size
    · rw [if_pos h1, if_pos (by omega)]
      have : k - (off + n) = (k - (off + (n + 1))) + 1 := by omega
      rw [this, List.getElem?_cons_succ]
    · rw [if_neg h1]
      by_cases h2 : k = off + n
      · subst h2
        by_cases h3 : off + n < cells.size
        · rw [if_pos (by omega)]
          simp [h3]
        · rw [if_neg (by omega)]
          simp [h3]
      · rw [if_neg (by omega), Array.getElem?_setIfInBounds_ne (fun e => h2 e.symm)]
theorem setFold_size (us : List Value) : ∀ (off n : Nat) (cells : Array Value), ((us.zipIdx n).foldl (fun cs (c, j) => cs.setIfInBounds (off + j) c) cells).size = cells.size := by
  induction us with
  | nil => intro off n cells; rfl
  | cons u us ih => intro off n cells; simp only [List.zipIdx_cons, List.foldl_cons]; rw [ih]; simp

theorem setFold_rel {ρ : Env} {row cs : List AVal} {cells us : Array Value} {off : Nat} (hr : VRels ρ row cells.toList) (ho : ∀ u ∈ cells.toList, u.oneCell' = true) (hs : VRels ρ cs us.toList) (hs1 : ∀ u ∈ us.toList, u.oneCell' = true)
    (_hfit : off + us.size ≤ cells.size) :
    VRels ρ (splice row off cs) (us.zipIdx.foldl (fun cs (c, j) => cs.setIfInBounds (off + j) c) cells).toList ∧
    (∀ u ∈ (us.zipIdx.foldl (fun cs (c, j) => cs.setIfInBounds (off + j) c) cells).toList, u.oneCell' = true) ∧ (us.zipIdx.foldl (fun cs (c, j) => cs.setIfInBounds (off + j) c) cells).size = cells.size := by
  have hconv : us.zipIdx.foldl (fun cs (c, j) => cs.setIfInBounds (off + j) c) cells = (us.toList.zipIdx 0).foldl (fun cs (c, j) => cs.setIfInBounds (off + j) c) cells := by
    rw [← Array.foldl_toList, Array.toList_zipIdx]
  rw [hconv]
  have hl1 := hr.length
  have hl2 := hs.length
  simp only [Array.length_toList] at hl1 hl2
  have look := setFold_get us.toList off 0 cells
  simp only [Nat.add_zero, Array.length_toList] at look
  refine ⟨VRels.mk (by rw [Array.length_toList, setFold_size, splice_length, hl1]) fun k x u hx hu => ?_, fun u hu => ?_, setFold_size _ _ _ _⟩
  · rw [Array.getElem?_toList, look] at hu
    rw [splice_get, ← hl2] at hx
    by_cases hh : off ≤ k ∧ k < off + us.size ∧ k < cells.size
    · rw [if_pos hh] at hu
      rw [if_pos (by omega)] at hx
      obtain ⟨u', hu', hrel⟩ := hs.get _ _ hx
      rw [hu] at hu'
      simp at hu'
      subst hu'
      exact hrel
    · rw [if_neg hh] at hu
      rw [if_neg (by omega)] at hx
      obtain ⟨u', hu', hrel⟩ := hr.get _ _ hx
      rw [Array.getElem?_toList, hu] at hu'
      simp at hu'
      subst hu'
      exact hrel
  · obtain ⟨k, hk⟩ := List.getElem?_of_mem hu
    rw [Array.getElem?_toList, look] at hk
    split at hk
    · exact hs1 u (List.mem_of_getElem? hk)
    · exact ho u (List.mem_of_getElem? (by rw [Array.getElem?_toList]; exact hk))

section build
variable {ρ : Env} {vm names : List Nat} {N : Nat} {vs ts : List AVal} {a : Act}

theorem fill_rel (e : ERel ρ vm names N vs ts a) (place : Nat → Option (Nat × Nat)) : ∀ (parts : List (Nat × Operand)) (qs : List (Nat × Nat × Opd)) (row : List AVal) (cells : Array Value) (l : List AVal),
    cParts vm names place parts = some qs → VRels ρ row cells.toList → (∀ u ∈ cells.toList, u.oneCell' = true) → fillP vs ts row qs = some l →
    ∃ cells', Instr.fill place cells (parts.map fun (i, x) => (i, a.eval x)) = some cells' ∧ VRels ρ l cells'.toList ∧ (∀ u ∈ cells'.toList, u.oneCell' = true) ∧ cells'.size = cells.size
  | [], qs, row, cells, l, hq, hr, ho, hf => by
    simp [cParts] at hq
    subst hq
    simp [fillP] at hf
    subst hf
    exact ⟨cells, rfl, hr, ho, rfl⟩
  | (i, x) :: parts, qs, row, cells, l, hq, hr, ho, hf => by
    simp only [cParts] at hq
    cases hp : place i with
    | none => rw [hp] at hq; cases hq
    | some on =>
      obtain ⟨off, n⟩ := on
      rw [hp] at hq
      cases hx : cOpd vm names x with
      | none => rw [hx] at hq; cases hq
      | some y =>
        rw [hx] at hq
        cases hrest : cParts vm names place parts with
        | none => rw [hrest] at hq; cases hq
        | some qs' =>
          rw [hrest] at hq
          simp at hq
          subst hq
          simp only [fillP] at hf
          cases hc : (y.get vs ts).cells with
          | none => rw [hc] at hf; cases hf
          | some cs =>
            rw [hc] at hf
            simp only at hf
            split at hf
            · rename_i hb
              simp only [Bool.and_eq_true, llen_eq] at hb
              have hn : cs.length = n := by simpa using hb.1
              have hfit : off + n ≤ row.length := Nat.le_of_ble_eq_true hb.2
              obtain ⟨hs, hs1⟩ := (opd_rel e hx).cells hc
              have hl1 := hr.length
              have hl2 := hs.length
              simp only [Array.length_toList] at hl1 hl2
              obtain ⟨h1, h2, h3⟩ := setFold_rel (off := off) hr ho hs hs1 (by omega)
              obtain ⟨cells', g1, g2, g3, g4⟩ := fill_rel e place parts qs' _ _ l hrest h1 h2 hf
              refine ⟨cells', ?_, g2, g3, g4.trans h3⟩
              have hcond : ¬ ((a.eval x).cells.size ≠ n ∨ off + (a.eval x).cells.size > cells.size) := by omega
              simp only [List.map_cons, Instr.fill, hp]
              rw [if_neg (by simpa using hcond)]
              exact g1
            · cases hf

variable {R : Type} {A : Alg R} {P : Program} {call : Nat → List AVal → Heap → (AVal → Heap → R) → R} {H : Heap} {w : World} {K : AVal → Heap → R}

theorem y_build (e : ERel ρ vm names N vs ts a) {t : TypeId} {ps : Array (Nat × Operand)} {di : DI} (hc : cOp P vm names (.build t ps) = some di) (h : A.holds (evI A call di vs ts H K)) :
    Pure P (Instr.build t (ps.map fun (i, x) => (i, a.eval x))) ρ H (fun x H => A.holds (K x H)) := by
  simp only [cOp] at hc
  cases hz : zeroRow P t with
  | none => rw [hz] at hc; cases hc
  | some z =>
    rw [hz] at hc
    simp only at hc
    obtain ⟨i, zv, hi, hzv, hsz, hzr, hzo, hzl⟩ := zeroRow_some (ρ := ρ) hz
    have key : ∀ (place : Nat → Option (Nat × Nat)) (qs : List (Nat × Nat × Opd)), cParts vm names place ps.toList = some qs → di = .build z qs →
        (∀ cells, Instr.fill place zv.cells (ps.toList.map fun (i, x) => (i, a.eval x)) = some cells → P.built t (ps.map fun (i, x) => (i, a.eval x)).toList = some cells) →
        Pure P (Instr.build t (ps.map fun (i, x) => (i, a.eval x))) ρ H (fun x H => A.holds (K x H)) := by
      intro place qs hqs hdi hb
      subst hdi
      simp only [evI] at h
      cases hf : fillP vs ts z qs with
      | none => rw [hf] at h; exact (A.fail_no h).elim
      | some l =>
        rw [hf] at h
        simp only [fL_eq] at h
        obtain ⟨cells, g1, g2, g3, _⟩ := fill_rel e place ps.toList qs z zv.cells l hqs hzr hzo hf
        have hrun := fun w => run_build (P := P) w t _ cells (hb cells g1)
        refine Pure.here h hrun ?_
        have := VRel.agg g2 g3
        simpa using this
    cases hu : P.underlying t with
    | none => rw [hu] at hc; cases hc
    | some d =>
      rw [hu] at hc
      cases d <;> try (simp at hc; done)
      case array n el =>
        simp only at hc
        cases hie : P.info? el with
        | none => rw [hie] at hc; cases hc
        | some ie =>
          rw [hie] at hc
          simp only [Option.map_eq_some_iff] at hc
          obtain ⟨qs, hqs, rfl⟩ := hc
          refine key _ qs hqs rfl fun cells hcells => ?_
          simp only [Program.built, hi, hu, hzv, hie]
          simpa using hcells
      case struct fs =>
        simp only at hc
        cases hp : fs.toList.mapM (fun f => (P.info? f.type).map fun i => (f.offset, i.size)) with
        | none => rw [hp] at hc; cases hc
        | some places =>
          rw [hp] at hc
          simp only [Option.map_eq_some_iff] at hc
          obtain ⟨qs, hqs, rfl⟩ := hc
          refine key _ qs hqs rfl fun cells hcells => ?_
          simp only [Program.built, hi, hu, hzv, hp]
          simpa using hcells
end build

/-! Rows, one behind the other -/
theorem flat_get {z : Nat} : ∀ {l : List (List AVal)}, (∀ row ∈ l, row.length = z) → ∀ {r : Nat} {row : List AVal}, l[r]? = some row → ∀ {j : Nat} {x : AVal}, row[j]? = some x → l.flatten[r * z + j]? = some x
  | [], _, r, row, h, _, _, _ => by simp at h
  | y :: l, hz, 0, row, h, j, x, hx => by
    simp at h
    subst h
    have hj : j < y.length := (List.getElem?_eq_some_iff.1 hx).1
    rw [List.flatten_cons, List.getElem?_append_left (by omega)]
    simpa using hx
  | y :: l, hz, r + 1, row, h, j, x, hx => by
    have hy : y.length = z := hz y (by simp)
    rw [List.flatten_cons, List.getElem?_append_right (by rw [hy, Nat.succ_mul]; omega), hy]
    rw [show (r + 1) * z + j - z = r * z + j from by rw [Nat.succ_mul]; omega]
    exact flat_get (fun q hq => hz q (by simp [hq])) (by simpa using h) hx
theorem flat_length {z : Nat} : ∀ {l : List (List AVal)}, (∀ row ∈ l, row.length = z) → l.flatten.length = l.length * z
  | [], _ => by simp
  | y :: l, hz => by
    rw [List.flatten_cons, List.length_append, flat_length (fun q hq => hz q (by simp [hq])), hz y (by simp), List.length_cons, Nat.succ_mul]
    omega
theorem flat_set {z : Nat} : ∀ {l : List (List AVal)}, (∀ row ∈ l, row.length = z) → ∀ (i : Nat) (cs : List AVal), cs.length = z → i < l.length → (l.set i cs).flatten = splice l.flatten (i * z) cs
  | [], _, i, cs, _, hi => by simp at hi
  | y :: l, hz, 0, cs, hc, _ => by
    have hy : y.length = z := hz y (by simp)
    apply List.ext_getElem?
    intro k
    rw [List.set_cons_zero, List.flatten_cons, List.flatten_cons, splice_get, List.length_append]
    simp only [Nat.zero_mul, Nat.zero_add, Nat.zero_le, true_and, Nat.sub_zero]
    by_cases hk : k < z
    · rw [List.getElem?_append_left (by omega), if_pos (by omega)]
    · rw [List.getElem?_append_right (by omega), if_neg (by omega), List.getElem?_append_right (by omega), hc, hy]
  | y :: l, hz, i + 1, cs, hc, hi => by
    have hy : y.length = z := hz y (by simp)
    have ih := flat_set (l := l) (fun q hq => hz q (by simp [hq])) i cs hc (by simpa using hi)
    apply List.ext_getElem?
    intro k
    rw [List.set_cons_succ, List.flatten_cons, List.flatten_cons, splice_get, List.length_append, ih]
    by_cases hk : k < z
    · rw [List.getElem?_append_left (by omega), if_neg (by rw [Nat.succ_mul]; omega), List.getElem?_append_left (by omega)]
    · rw [List.getElem?_append_right (by omega), splice_get, hy]
      by_cases hh : (i + 1) * z ≤ k ∧ k < (i + 1) * z + cs.length ∧ k < z + l.flatten.length
      · have := hh
        rw [Nat.succ_mul] at this
        rw [if_pos hh, if_pos (by omega)]
        congr 1
        rw [Nat.succ_mul]
        omega
      · have := hh
        rw [Nat.succ_mul] at this
        rw [if_neg hh, if_neg (by omega), List.getElem?_append_right (by omega), hy]

theorem flat_replicate {z : Nat} {row : List AVal} (hz : row.length = z) : ∀ (n k : Nat), k < n * z → (List.replicate n row).flatten[k]? = row[k % z]?
  | 0, k, h => by simp at h
  | n + 1, k, h => by
    rw [List.replicate_succ, List.flatten_cons]
    by_cases hk : k < z
    · rw [List.getElem?_append_left (by omega), Nat.mod_eq_of_lt hk]
    · rw [List.getElem?_append_right (by omega), hz, flat_replicate hz n (k - z) (by rw [Nat.succ_mul] at h; omega)]
      congr 1
      exact (Nat.mod_eq_sub_mod (by omega)).symm

/-- Zeros, one behind the other. -/
theorem zeros_rel {ρ : Env} {row : List AVal} {zs : Array Value} (h : VRels ρ row zs.toList) (h1 : ∀ u ∈ zs.toList, u.oneCell' = true) (hpos : 0 < zs.size) (n : Nat) :
    VRels ρ (List.replicate n row).flatten ((Array.range (n * zs.size)).map (zs[· % zs.size]!)).toList ∧ ∀ u ∈ ((Array.range (n * zs.size)).map (zs[· % zs.size]!)).toList, u.oneCell' = true := by
  have hl := h.length
  simp only [Array.length_toList] at hl
  have look : ∀ k, k < n * zs.size → ((Array.range (n * zs.size)).map (zs[· % zs.size]!)).toList[k]? = zs.toList[k % zs.size]? := fun k hk => by
    have hm : k % zs.size < zs.size := Nat.mod_lt _ hpos
    rw [Array.getElem?_toList, Array.getElem?_map, Array.getElem?_range, if_pos hk, Option.map_some, Array.getElem?_toList, Array.getElem?_eq_getElem hm, getElem!_pos zs (k % zs.size) hm]
  have hlen : (List.replicate n row).flatten.length = n * zs.size := by
    rw [flat_length (z := zs.size) (fun q hq => by rw [(List.mem_replicate.1 hq).2, hl]), List.length_replicate]
  refine ⟨VRels.mk (by rw [hlen]; simp) fun k x u hx hu => ?_, fun u hu => ?_⟩
  · have hk : k < n * zs.size := by rw [← hlen]; exact (List.getElem?_eq_some_iff.1 hx).1
    rw [flat_replicate hl.symm n k hk] at hx
    rw [look k hk] at hu
    obtain ⟨u', hu', hrel⟩ := h.get _ _ hx
    rw [hu] at hu'
    simp at hu'
    subst hu'
    exact hrel
  · obtain ⟨k, hk⟩ := List.getElem?_of_mem hu
    have hk' : k < n * zs.size := by
      have := (List.getElem?_eq_some_iff.1 hk).1
      simpa using this
    rw [look k hk'] at hk
    exact h1 u (List.mem_of_getElem? hk)

section slices
variable {ρ : Env} {vm names : List Nat} {N : Nat} {vs ts : List AVal} {a : Act}

theorem fillR_rel {z : Nat} : ∀ (parts : List (Nat × Operand)) (qs : List (Nat × Opd)) (rows l : List (List AVal)), cPartsR vm names parts = some qs → (∀ row ∈ rows, row.length = z) → fillR vs ts z rows qs = some l →
    ∃ qs', cParts vm names (fun i => some (i * z, z)) parts = some qs' ∧ fillP vs ts rows.flatten qs' = some l.flatten ∧ (∀ row ∈ l, row.length = z) ∧ l.length = rows.length
  | [], qs, rows, l, hq, hz, hf => by
    simp [cPartsR] at hq
    subst hq
    simp [fillR] at hf
    subst hf
    exact ⟨[], rfl, rfl, hz, rfl⟩
  | (i, x) :: parts, qs, rows, l, hq, hz, hf => by
    simp only [cPartsR] at hq
    cases hx : cOpd vm names x with
    | none => rw [hx] at hq; cases hq
    | some y =>
      rw [hx] at hq
      cases hrest : cPartsR vm names parts with
      | none => rw [hrest] at hq; cases hq
      | some qs1 =>
        rw [hrest] at hq
        simp at hq
        subst hq
        simp only [fillR] at hf
        cases hc : (y.get vs ts).cells with
        | none => rw [hc] at hf; cases hf
        | some cs =>
          rw [hc] at hf
          simp only at hf
          split at hf
          · rename_i hb
            simp only [Bool.and_eq_true, llen_eq, rlen_eq] at hb
            have hn : cs.length = z := by simpa using hb.1
            have hi : i < rows.length := by
              have := hb.2
              unfold Nat.blt at this
              exact Nat.le_of_ble_eq_true this
            rw [rset_eq] at hf
            have hz' : ∀ row ∈ rows.set i cs, row.length = z := fun row hrow => by
              rcases List.mem_or_eq_of_mem_set hrow with h | h
              · exact hz row h
              · rw [h]; exact hn
            obtain ⟨qs', g1, g2, g3, g4⟩ := fillR_rel parts qs1 _ l hrest hz' hf
            refine ⟨(i * z, z, y) :: qs', by simp [cParts, hx, g1], ?_, g3, by rw [g4, List.length_set]⟩
            rw [flat_set hz i cs hn hi] at g2
            have hfl := flat_length hz
            have hle : i * z + z ≤ rows.length * z := by
              have : (i + 1) * z ≤ rows.length * z := Nat.mul_le_mul_right _ hi
              rwa [Nat.succ_mul] at this
            simp only [fillP, hc, llen_eq, hn, hfl]
            have : (Nat.beq z z && Nat.ble (i * z + z) (rows.length * z)) = true := by
              rw [Bool.and_eq_true]
              exact ⟨by simp, by rw [Nat.ble_eq]; exact hle⟩
            rw [this]
            exact g2
          · cases hf

variable {R : Type} {A : Alg R} {P : Program} {call : Nat → List AVal → Heap → (AVal → Heap → R) → R} {H : Heap} {w : World} {K : AVal → Heap → R}

/-- A new array, whole. -/
theorem newRow_yields {t : TypeId} {l : List (List AVal)} {z : Nat} (hz : ∀ row ∈ l, row.length = z) {cells : Array Value} (hs : VRels ρ l.flatten cells.toList) (ho : ∀ u ∈ cells.toList, u.oneCell' = true) (hH : HRel ρ H w) (hm : True) (m : Nat) (hml : m ≤ l.length)
    {Q : AVal → Heap → Prop} (hq : Q (.slc H.next 0 m (some l.length) z) (H.add (.rows z l))) :
    YieldsK P (do pure (.slice (some (← newRow t cells)) m l.length)) ρ H w Q := by
  have hl := hs.length
  rw [flat_length hz] at hl
  simp only [Array.length_toList] at hl
  refine ⟨_, _, ρ.add H.next ⟨w.heap.size, 0, l.length * z, l.length, z⟩, .slice (some ⟨w.heap.size, 0, none⟩) m l.length, w.alloc (.cells cells t), hq, by simp [newRow], ?_, ?_, fun k hk => heap_push_old _ _ _ hk⟩
  · refine VRel.slc (R := ⟨w.heap.size, 0, l.length * z, l.length, z⟩) Env.add_same 0 m l.length (some l.length) _ hml (fun c hc => by simpa using hc) (fun h => by cases h) (.inr ⟨by simp, by simp⟩)
  · refine Step.alloc hH hm _ _ _ _ _ rfl rfl rfl (by simp) hz hl fun r row hr j y hy => ?_
    obtain ⟨u, hu, hrel⟩ := hs.get _ _ (flat_get hz hr hy)
    exact ⟨u, by simpa using hu, ho u (List.mem_of_getElem? hu), hrel⟩

theorem y_buildS (e : ERel ρ vm names N vs ts a) {t : TypeId} {n : Nat} {ps : Array (Nat × Operand)} {di : DI} (hc : cOp P vm names (.buildSlice t n ps) = some di) (hH : HRel ρ H w) (h : A.holds (evI A call di vs ts H K)) :
    YieldsK P (Instr.buildSlice t n (ps.map fun (i, x) => (i, a.eval x))) ρ H w (fun x H => A.holds (K x H)) := by
  simp only [cOp] at hc
  cases hu : P.underlying t with
  | none => rw [hu] at hc; cases hc
  | some d =>
    rw [hu] at hc
    cases d <;> try (simp at hc; done)
    rename_i el
    simp only at hc
    cases hz : zeroRow P el with
    | none => rw [hz] at hc; cases hc
    | some z =>
      rw [hz] at hc
      simp only at hc
      split at hc
      · rename_i hpos
        simp only [Option.map_eq_some_iff] at hc
        obtain ⟨qs, hqs, rfl⟩ := hc
        simp only [evI] at h
        cases hf : fillR vs ts (P.cellsOf el) (List.replicate n z) qs with
        | none => rw [hf] at h; exact (A.fail_no h).elim
        | some l =>
          rw [hf] at h
          simp only [fL_eq] at h
          obtain ⟨hm, h⟩ := hAdd_holds h
          simp only [fN_eq, rlen_eq] at h
          obtain ⟨i, zv, hi, hzv, hsz, hzr, hzo, hzl⟩ := zeroRow_some (ρ := ρ) hz
          have hcell : P.cellsOf el = i.size := by simp [Program.cellsOf, hi]
          rw [hcell] at hpos hf h
          obtain ⟨qs', g1, g2, g3, g4⟩ := fillR_rel ps.toList qs _ l hqs (fun row hrow => by rw [(List.mem_replicate.1 hrow).2, hzl]) hf
          obtain ⟨z1, z2⟩ := zeros_rel hzr hzo (by omega) n
          obtain ⟨cells, f1, f2, f3, _⟩ := fill_rel e _ ps.toList qs' _ _ l.flatten g1 z1 z2 g2
          have hln : l.length = n := by rw [g4, List.length_replicate]
          obtain ⟨x, H', ρ', v, w', k1, k2, k3, k4, k5⟩ := newRow_yields (P := P) (t := el) g3 f2 f3 hH hm n (by omega) (Q := fun x H => A.holds (K x H)) (by rw [hln]; rw [hln] at h; exact h)
          refine ⟨x, H', ρ', v, w', k1, ?_, k3, k4, k5⟩
          rw [hsz] at f1
          have e1 : (fun (p : Nat × Operand) => match p with | (i, x) => (i, a.eval x)) = fun x => (x.fst, a.eval x.snd) := by funext ⟨i, x⟩; rfl
          rw [e1] at f1
          have hrs := run_sizeOf (P := P) hi
          simp only [Program.cellsOf, hi, Option.map_some, Option.getD_some] at hrs
          by_cases h0 : n = 0
          · subst h0
            have hl0 : l = [] := List.length_eq_zero_iff.1 hln
            subst hl0
            have hr0 : Array.range (0 * i.size) = #[] := by simp
            rw [hr0] at f1
            simp only [Array.map_empty] at f1
            simp only [Instr.buildSlice, Sem.run_bind, run_underlying hu, Result.andThen_ok, hrs]
            have hr1 : Array.range 0 = #[] := by simp
            simp [f1, hr1]
            simpa using k2
          · have hnz : ¬ (n * i.size = 0) := Nat.mul_ne_zero h0 (by omega)
            simp only [Instr.buildSlice, Sem.run_bind, run_underlying hu, Result.andThen_ok, hrs]
            rw [if_neg (show ¬ (n * i.size > 2 ^ 24) by omega), if_neg hnz]
            simp [run_zero hi hzv, hsz, f1]
            simpa [hln] using k2
      · cases hc
end slices
end Dt
